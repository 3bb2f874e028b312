/-
  A part of the proof: see the text of the law.
-/
import Derived.Test.YtlokeliagcaepaaPab
import Derived.Test.YtlokeliagcaepaaEak
import Derived.Test.YtlokeliagcaepaaEax
import Derived.Test.YtlokeliagcaepaaEaj
set_option linter.unusedSimpArgs false
set_option linter.unusedVariables false
namespace Go.Proofs.Try
set_option linter.unusedVariables false
set_option linter.unusedSimpArgs false

/-! ### what is right -/
theorem barRt_eq (b : Bar) (k : Int) : b.rtC k = b.rt19 k := by
  rw [Bool.eq_iff_iff]
  by_cases hr : b.lo.Right ∧ b.hi.Right
  · have hc := VL.cmp_full hr.1 hr.2
    by_cases he : b.lo = b.hi
    · have hs : b.lo.cmp b.hi = 0 := by rw [he]; exact vl_cmp.self _
      have hk : b.lo.k = b.hi.k := by rw [he]
      simp only [Bar.rtC, Bar.rt19, Bar.single, Bool.and_eq_true, decide_eq_true_eq, Bool.not_eq_true', Bool.and_eq_false_iff, decide_eq_false_iff_not, if_pos he, decide_true, hs, if_true]
      constructor
      · rintro ⟨⟨⟨⟨⟨⟨⟨⟨⟨⟨a, b⟩, c⟩, d⟩, e⟩, f⟩, g⟩, i⟩, j⟩, m⟩, n⟩
        refine ⟨⟨⟨⟨⟨a, b⟩, c⟩, e⟩, by omega⟩, ⟨by omega, ?_⟩, ?_⟩ <;> rcases n with n | n <;> first | (exact absurd he n) | omega
      · rintro ⟨⟨⟨⟨⟨a, b⟩, c⟩, e⟩, f⟩, ⟨g, i⟩, j⟩
        exact ⟨⟨⟨⟨⟨⟨⟨⟨⟨⟨a, b⟩, c⟩, hk⟩, e⟩, g⟩, by omega⟩, by omega⟩, by omega⟩, by omega⟩, .inr (by omega)⟩
    · have hs : b.lo.cmp b.hi ≠ 0 := fun h => he (vl_cmp.eq _ _ h)
      simp only [Bar.rtC, Bar.rt19, Bar.single, Bool.and_eq_true, decide_eq_true_eq, Bool.not_eq_true', Bool.and_eq_false_iff, decide_eq_false_iff_not, if_neg he, he, decide_false, Bool.false_eq_true, if_false, ← hc]
      constructor
      · rintro ⟨⟨⟨⟨⟨⟨⟨⟨⟨⟨a, b⟩, c⟩, d⟩, e⟩, f⟩, g⟩, i⟩, j⟩, m⟩, n⟩
        exact ⟨⟨⟨⟨⟨a, b⟩, c⟩, e⟩, by omega⟩, ⟨⟨by omega, i⟩, j⟩, m⟩
      · rintro ⟨⟨⟨⟨⟨a, b⟩, c⟩, e⟩, f⟩, ⟨⟨g, i⟩, j⟩, m⟩
        exact ⟨⟨⟨⟨⟨⟨⟨⟨⟨⟨a, b⟩, c⟩, by omega⟩, e⟩, by omega⟩, by omega⟩, by omega⟩, by omega⟩, by omega⟩, .inl trivial⟩
  · simp only [Bar.rtC, Bar.rt19, Bool.and_eq_true, decide_eq_true_eq]
    constructor
    · rintro ⟨⟨⟨⟨⟨⟨⟨⟨⟨⟨a, b⟩, c⟩, d⟩, e⟩, f⟩, g⟩, i⟩, j⟩, m⟩, n⟩
      exact absurd ⟨a, b⟩ hr
    · rintro ⟨⟨⟨⟨⟨a, b⟩, c⟩, e⟩, f⟩, _⟩
      exact absurd ⟨a, b⟩ hr
theorem rtC_right {b : Bar} {k : Int} (h : b.rtC k = true) : b.lo.Right ∧ b.hi.Right := by
  simp only [Bar.rtC, Bool.and_eq_true, decide_eq_true_eq] at h
  exact ⟨h.1.1.1.1.1.1.1.1.1.1, h.1.1.1.1.1.1.1.1.1.2⟩
theorem okFrom_eq (k hr : Int) : ∀ (l : List Bar) (p : Option VL) (n : Int), (∀ v, p = some v → v.Right) →
    okFrom (fun b => b.rtC k) VL.cmp hr p n l = okFrom (fun b => b.rt19 k) VL.cmp19 hr p n l
  | [], p, n, _ => rfl
  | b :: l, p, n, hp => by
    simp only [okFrom]
    have he := barRt_eq b k
    by_cases hb : b.rtC k = true
    · obtain ⟨h1, h2⟩ := rtC_right hb
      rw [okFrom_eq k hr l (some b.hi) (n + b.rows) (fun v hv => by cases hv; exact h2), ← he]
      cases p with
      | none => rfl
      | some v => simp only [VL.cmp_full (hp v rfl) h1]
    · rw [← he]
      simp [hb]
theorem chk_eq (h : Hist) : h.chkC = h.chk19 := by
  unfold Hist.chkC Hist.chk19 Hist.ok
  rw [okFrom_eq _ _ _ _ _ (fun v hv => by cases hv)]
def sumRows (l : List Bar) : Int := l.foldr (fun b n => b.rows + n) 0
theorem okFrom_facts (k hr : Int) : ∀ (l : List Bar) (p : Option VL) (n : Int), okFrom (fun b => b.rtC k) VL.cmp hr p n l = true →
    (∀ b ∈ l, b.rtC k = true ∧ b.rows ≤ hr - n) ∧ l.Pairwise (fun x y => x.hi.cmp y.lo < 0) ∧ (∀ v, p = some v → ∀ b ∈ l, v.cmp b.lo < 0) ∧ n + sumRows l = hr
  | [], p, n, h => by
    simp [okFrom] at h
    simp [sumRows, h]
  | b :: l, p, n, h => by
    simp only [okFrom, Bool.and_eq_true, decide_eq_true_eq] at h
    obtain ⟨⟨⟨h1, h2⟩, h3⟩, h4⟩ := h
    obtain ⟨i1, i2, i3, i4⟩ := okFrom_facts k hr l (some b.hi) (n + b.rows) h4
    have h0 := rtC_pos h1
    have hle : b.lo.cmp b.hi ≤ 0 := by
      simp only [Bar.rtC, Bool.and_eq_true, decide_eq_true_eq] at h1
      exact h1.1.1.1.1.2
    refine ⟨?_, List.pairwise_cons.2 ⟨i3 _ rfl, i2⟩, ?_, ?_⟩
    · intro c hc
      rcases List.mem_cons.1 hc with rfl | hc
      · exact ⟨h1, h2⟩
      · have := i1 c hc
        exact ⟨this.1, by omega⟩
    · rintro v rfl c hc
      simp only [decide_eq_true_eq] at h3
      rcases List.mem_cons.1 hc with rfl | hc
      · exact h3
      · have := i3 _ rfl c hc
        exact vl_cmp.lt_trans h3 (vl_cmp.trans _ _ _ hle (by omega))
    · simp only [sumRows, List.foldr_cons] at i4 ⊢
      omega
structure HOk (h : Hist) : Prop where
  rows0 : 0 ≤ h.rows
  rows : h.rows ≤ 16777216
  nulls0 : 0 ≤ h.nulls
  nulls : h.nulls ≤ h.rows
  bars : ∀ b ∈ h.bars, b.rtC (h.bars.getD 0 default).lo.k = true ∧ b.rows ≤ h.rows - h.nulls
  apart : h.bars.Pairwise (fun x y => x.hi.cmp y.lo < 0)
  sum : h.nulls + sumRows h.bars = h.rows
theorem hok {h : Hist} (hc : h.chkC = true) : HOk h := by
  simp only [Hist.chkC, Hist.ok, Bool.and_eq_true, decide_eq_true_eq] at hc
  obtain ⟨⟨⟨⟨a, b⟩, c⟩, d⟩, e⟩ := hc
  obtain ⟨i1, i2, _, i4⟩ := okFrom_facts _ _ _ _ _ e
  exact ⟨a, b, c, d, i1, i2, i4⟩
structure RtB (b : Bar) : Prop where
  lo : b.lo.Right
  hi : b.hi.Right
  nz : b.lo.k ≠ 0
  kind : b.lo.k = b.hi.k
  rows : 1 ≤ b.rows
  le : b.lo.cmp b.hi ≤ 0
  least : (if b.lo = b.hi then 1 else 2) ≤ b.least
  most : b.least ≤ b.most
  mrows : b.most ≤ b.rows
  one : b.lo = b.hi → b.most = 1
theorem rtB {b : Bar} {k : Int} (h : b.rtC k = true) : RtB b ∧ b.lo.k = k := by
  simp only [Bar.rtC, Bool.and_eq_true, decide_eq_true_eq, Bar.single] at h
  obtain ⟨⟨⟨⟨⟨⟨⟨⟨⟨⟨a, b'⟩, c⟩, d⟩, e⟩, f⟩, g⟩, i⟩, j⟩, m⟩, n⟩ := h
  refine ⟨⟨a, b', c, d, f, g, i, j, m, fun hq => ?_⟩, e⟩
  rw [if_pos hq] at i
  simp [hq] at n
  omega
theorem RtB.ok {b : Bar} (h : RtB b) (hr : b.rows ≤ 16777216) : BarOk b := by
  have h1 := h.least
  have h2 := h.most
  have h3 := h.mrows
  have h4 := h.rows
  have h5 : 1 ≤ b.least := by split at h1 <;> omega
  exact ⟨by omega, hr, by omega, by omega, by omega, by omega, h.lo, h.hi⟩
theorem HOk.rt {h : Hist} (hh : HOk h) {b : Bar} (hb : b ∈ h.bars) : RtB b := (rtB (hh.bars b hb).1).1
theorem HOk.kind {h : Hist} (hh : HOk h) {b : Bar} (hb : b ∈ h.bars) : b.lo.k = (h.bars.getD 0 default).lo.k := (rtB (hh.bars b hb).1).2
theorem HOk.ok {h : Hist} (hh : HOk h) {b : Bar} (hb : b ∈ h.bars) : BarOk b := (hh.rt hb).ok (by
  have := (hh.bars b hb).2
  have := hh.rows
  have := hh.nulls0
  omega)
theorem BarOk.small {b : Bar} (h : BarOk b) : b.small := ⟨h.rows0, h.rows, h.least0, h.least⟩
theorem side_ok {ρ : VL → Int} {V : List VL} (hn : Num ρ V) {l : List Bar} (hr : ∀ b ∈ l, RtB b ∧ b.lo ∈ V ∧ b.hi ∈ V) (ha : l.Pairwise (fun x y => x.hi.cmp y.lo < 0)) : SideOk ρ V l := by
  refine ⟨fun x hx => ?_, ?_⟩
  · obtain ⟨h1, h2, h3⟩ := hr x hx
    refine ⟨h2, h3, ?_, h1.rows⟩
    have := hn.ord _ h2 _ h3
    have := h1.le
    omega
  · refine ha.imp_of_mem ?_
    intro x y hx hy h
    exact (hn.ord _ (hr x hx).2.2 _ (hr y hy).2.1).1.1 h
/-- Numbers for the values of two right histograms of one kind. -/
theorem sides {a b : Hist} (ha : HOk a) (hb : HOk b) (hk : ¬ kindsDiffer a.bars b.bars = true) : ∃ (ρ : VL → Int) (V : List VL), Num ρ V ∧ SideOk ρ V a.bars ∧ SideOk ρ V b.bars := by
  have hkk : ∃ k, ∀ x ∈ a.bars ++ b.bars, x.lo.k = k := by
    cases hx : a.bars with
    | nil =>
      refine ⟨(b.bars.getD 0 default).lo.k, fun x hx => hb.kind (by simpa using hx)⟩
    | cons x xs =>
      refine ⟨x.lo.k, fun z hz => ?_⟩
      have hxk : ∀ z ∈ x :: xs, z.lo.k = x.lo.k := fun z hz => by
        have := ha.kind (b := z) (by rw [hx]; exact hz)
        rw [this, hx]; rfl
      rcases List.mem_append.1 hz with hz | hz
      · exact hxk z hz
      · cases hy : b.bars with
        | nil => rw [hy] at hz; cases hz
        | cons y ys =>
          rw [hx, hy] at hk
          simp [kindsDiffer] at hk
          have := hb.kind hz
          rw [this, hy, hk]; rfl
  obtain ⟨k, hkk⟩ := hkk
  have hrt : ∀ x ∈ a.bars ++ b.bars, RtB x := fun x hx => (List.mem_append.1 hx).elim ha.rt hb.rt
  let V : List VL := (a.bars ++ b.bars).flatMap fun x => [x.lo, x.hi]
  obtain ⟨ρ, hρ⟩ := ranks vl_cmp V
  have hV : ∀ v ∈ V, ∃ x ∈ a.bars ++ b.bars, v = x.lo ∨ v = x.hi := fun v hv => by
    obtain ⟨x, hx, hv⟩ := List.mem_flatMap.1 hv
    exact ⟨x, hx, by simpa using hv⟩
  have hin : ∀ x ∈ a.bars ++ b.bars, x.lo ∈ V ∧ x.hi ∈ V := fun x hx =>
    ⟨List.mem_flatMap.2 ⟨x, hx, by simp⟩, List.mem_flatMap.2 ⟨x, hx, by simp⟩⟩
  have hkV : ∀ v ∈ V, v.k = k := fun v hv => by
    obtain ⟨x, hx, h⟩ := hV v hv
    have h1 := hkk x hx
    have h2 := (hrt x hx).kind
    rcases h with rfl | rfl <;> omega
  have hn : Num ρ V := ⟨hρ, fun v hv => by
    obtain ⟨x, hx, h⟩ := hV v hv
    rcases h with rfl | rfl
    · exact (hrt x hx).lo
    · exact (hrt x hx).hi, fun x hx y hy => by rw [hkV x hx, hkV y hy]⟩
  exact ⟨ρ, V, hn, side_ok hn (fun x hx => ⟨ha.rt hx, hin x (by simp [hx])⟩) ha.apart, side_ok hn (fun x hx => ⟨hb.rt hx, hin x (by simp [hx])⟩) hb.apart⟩
/-- The two ways to merge answer alike. -/
theorem merge_law {a b : Hist} (ha : HOk a) (hb : HOk b) : mergeH mergeF a b = mergeH mergeR a b := by
  unfold mergeH
  split
  · rfl
  split
  · rfl
  rename_i hk _
  have he : mergeF a.bars b.bars = mergeR a.bars b.bars := by
    obtain ⟨ρ, V, hn, sx, sy⟩ := sides ha hb hk
    exact merge_eq hn sx sy _ (Nat.le_refl _)
  rw [he]
end Go.Proofs.Try

namespace Go.Proofs.Try
set_option linter.unusedVariables false
set_option linter.unusedSimpArgs false

/-! ### what a histogram says of some values -/
def inB (b : Bar) (v : VL) : Bool := decide (v.k = b.lo.k) && decide (0 ≤ v.cmp19 b.lo) && decide (v.cmp19 b.hi ≤ 0)
structure DescB (V : List VL) (b : Bar) : Prop where
  rows : ((V.filter (inB b)).length : Int) = b.rows
  least : b.least ≤ (diffV (V.filter (inB b))).length
  most : ((diffV (V.filter (inB b))).length : Int) ≤ b.most
  lo : timesV V b.lo ≠ 0
  hi : timesV V b.hi ≠ 0
/-- A histogram describes some values, among some rows. -/
structure Desc (h : Hist) (V : List VL) (n : Nat) : Prop where
  chk : h.chk19 = true
  rows : h.rows = n
  nulls : h.nulls = n - V.length
  bars : ∀ b ∈ h.bars, DescB V b
/-- What is made of a column. -/
def madeOf (l : List (List VL)) (col m : Int) : Hist × Bool := if fewR l then ((histOf l col (1 + m % 100)).1, decide ((histOf l col (1 + m % 100)).2 = 0)) else (h0, false)
theorem made_true {l : List (List VL)} {col m : Int} (h : (madeOf l col m).2 = true) : fewR l ∧ (madeOf l col m).1 = (histOf l col (1 + m % 100)).1 ∧ (histOf l col (1 + m % 100)).2 = 0 := by
  unfold madeOf at h ⊢
  split at h
  · rename_i hf
    simp only [decide_eq_true_eq] at h
    exact ⟨hf, by rw [if_pos hf], h⟩
  · simp at h
end Go.Proofs.Try

namespace Go.Proofs.Try
set_option linter.unusedVariables false
set_option linter.unusedSimpArgs false

/-! ### a histogram describes what it was made of -/
def sl (d : List VL) (s j : Nat) : List VL := (d.take j).drop s
theorem sl_self (d : List VL) (s : Nat) : sl d s s = [] := by simp [sl]
theorem sl_add {d : List VL} {s j p : Nat} (h1 : s ≤ j) (h2 : j ≤ p) (h3 : p ≤ d.length) : sl d s p = sl d s j ++ sl d j p := by
  have e : d.take p = d.take j ++ (d.take p).drop j := by
    have := List.take_append_drop j (d.take p)
    rw [List.take_take, Nat.min_eq_left h2] at this
    exact this.symm
  unfold sl
  rw [e, List.drop_append_of_le_length (by simp; omega), List.drop_append_of_le_length (by simp; omega)]
  rw [show ((d.take j).drop j) = [] by simp, List.nil_append]
theorem sl_one {d : List VL} {k : Nat} (h : k < d.length) : sl d k (k + 1) = [d.getD k default] := by
  unfold sl
  rw [take_succD h, List.drop_append_of_le_length (by simp; omega)]
  simp
theorem sl_all (d : List VL) : sl d 0 d.length = d := by simp [sl]
theorem sl_len {d : List VL} {s j : Nat} (h : j ≤ d.length) : (sl d s j).length = j - s := by
  simp [sl]; omega
theorem sl_mem {d : List VL} {s j : Nat} (h : j ≤ d.length) (v : VL) : v ∈ sl d s j ↔ ∃ t, s ≤ t ∧ t < j ∧ d.getD t default = v := by
  unfold sl
  rw [List.mem_drop_iff_getElem]
  constructor
  · rintro ⟨t, ht, rfl⟩
    simp only [List.length_take] at ht
    refine ⟨s + t, by omega, by omega, ?_⟩
    rw [List.getD_eq_getElem?_getD, List.getElem?_eq_getElem (by omega), Option.getD_some]
    simp [Nat.add_comm]
  · rintro ⟨t, h1, h2, rfl⟩
    refine ⟨t - s, by simp; omega, ?_⟩
    rw [List.getD_eq_getElem?_getD, List.getElem?_eq_getElem (by omega), Option.getD_some]
    simp only [List.getElem_take]
    congr 1
    omega
theorem asc_lt {d : List VL} (hd : ascV d) {i j : Nat} (h : i < j) (hj : j < d.length) : (d.getD i default).cmp (d.getD j default) < 0 := by
  rw [List.getD_eq_getElem?_getD, List.getElem?_eq_getElem (by omega), List.getD_eq_getElem?_getD, List.getElem?_eq_getElem hj]
  exact List.pairwise_iff_getElem.1 hd i j (by omega) hj h
theorem sl_sub (d : List VL) (s j : Nat) : (sl d s j).Sublist d := (List.drop_sublist _ _).trans (List.take_sublist _ _)
/-- How many are in a list. -/
def cntIn (vs A : List VL) : Nat := (vs.filter fun v => decide (v ∈ A)).length
theorem cntIn_app {A B : List VL} (h : ∀ v ∈ A, v ∉ B) : ∀ vs : List VL, cntIn vs (A ++ B) = cntIn vs A + cntIn vs B
  | [] => rfl
  | v :: vs => by
    have ih := cntIn_app h vs
    unfold cntIn at ih ⊢
    simp only [List.filter_cons, List.mem_append, decide_eq_true_eq] at ih ⊢
    by_cases h1 : v ∈ A
    · have h2 := h v h1
      simp only [h1, h2, or_false, if_true, if_false, List.length_cons]
      omega
    · by_cases h2 : v ∈ B
      · simp only [h1, h2, or_true, if_true, if_false, List.length_cons]
        omega
      · simp only [h1, h2, or_self, if_false]
        exact ih
theorem cntIn_nil (vs : List VL) : cntIn vs [] = 0 := by simp [cntIn]
theorem cntIn_one (vs : List VL) (x : VL) : cntIn vs [x] = timesV vs x := by simp [cntIn, timesV]
theorem cntIn_all {vs d : List VL} (h : ∀ v ∈ vs, v ∈ d) : cntIn vs d = vs.length := by
  unfold cntIn
  rw [List.filter_eq_self.2 fun v hv => by simpa using h v hv]
def seg (vs d : List VL) (s j : Nat) : Bar := ⟨d.getD s default, d.getD (j - 1) default, cntIn vs (sl d s j), ((j - s : Nat) : Int), ((j - s : Nat) : Int)⟩
/-- Bars over the values from one on to another. -/
def Segs (vs d : List VL) : Nat → List Bar → Nat → Prop
  | s, [], p => s = p
  | s, b :: l, p => ∃ j, s < j ∧ j ≤ d.length ∧ b = seg vs d s j ∧ Segs vs d j l p
theorem Segs.snoc {vs d : List VL} {p j : Nat} (h1 : p < j) (h2 : j ≤ d.length) : ∀ {l : List Bar} {s : Nat}, Segs vs d s l p → Segs vs d s (l ++ [seg vs d p j]) j
  | [], s, h => by
    cases h
    exact ⟨j, h1, h2, rfl, rfl⟩
  | b :: l, s, h => by
    obtain ⟨q, a1, a2, a3, a4⟩ := h
    exact ⟨q, a1, a2, a3, Segs.snoc h1 h2 a4⟩
structure Ctx (vs d : List VL) : Prop where
  asc : ascV d
  mem : ∀ v, v ∈ d ↔ v ∈ vs
theorem Ctx.times {vs d : List VL} (h : Ctx vs d) {k : Nat} (hk : k < d.length) : 1 ≤ timesV vs (d.getD k default) := by
  have hm := (h.mem _).1 (getD_mem (l := d) hk)
  unfold timesV
  have : d.getD k default ∈ vs.filter fun u => decide (u = d.getD k default) := List.mem_filter.2 ⟨hm, by simp⟩
  exact List.length_pos_of_mem this
theorem Ctx.add {vs d : List VL} (h : Ctx vs d) {s j p : Nat} (h1 : s ≤ j) (h2 : j ≤ p) (h3 : p ≤ d.length) : cntIn vs (sl d s p) = cntIn vs (sl d s j) + cntIn vs (sl d j p) := by
  rw [sl_add h1 h2 h3]
  have hn : (sl d s j ++ sl d j p).Nodup := by rw [← sl_add h1 h2 h3]; exact (ascV_nodup h.asc).sublist (sl_sub d s p)
  exact cntIn_app (fun v hv hv' => (List.nodup_append.1 hn).2.2 v hv v hv' rfl) vs
theorem Ctx.succ {vs d : List VL} (h : Ctx vs d) {s k : Nat} (h1 : s ≤ k) (h2 : k < d.length) : cntIn vs (sl d s (k + 1)) = cntIn vs (sl d s k) + timesV vs (d.getD k default) := by
  rw [h.add h1 (by omega) h2, sl_one h2, cntIn_one]
theorem Ctx.ge {vs d : List VL} (h : Ctx vs d) {s : Nat} : ∀ {j : Nat}, s ≤ j → j ≤ d.length → j - s ≤ cntIn vs (sl d s j)
  | 0, _, _ => by omega
  | j + 1, h1, h2 => by
    by_cases hs : s = j + 1
    · omega
    · have := h.ge (s := s) (j := j) (by omega) (by omega)
      have := h.succ (s := s) (k := j) (by omega) h2
      have := h.times (k := j) h2
      omega
theorem bars_segs {vs d : List VL} (h : Ctx vs d) (depth : Int) : ∀ k, k ≤ d.length → ∃ p, p ≤ k ∧ Segs vs d 0 (barsN vs d depth k).1 p ∧ (∀ b ∈ (barsN vs d depth k).1.dropLast, depth ≤ b.rows) ∧ (k < d.length → ∀ b ∈ (barsN vs d depth k).1, depth ≤ b.rows) ∧
    ((p = k ∧ (barsN vs d depth k).2 = zBar) ∨ (p < k ∧ k < d.length ∧ (barsN vs d depth k).2 = seg vs d p k))
  | 0, _ => ⟨0, Nat.le_refl _, rfl, by simp [barsN], by simp [barsN], .inl ⟨rfl, rfl⟩⟩
  | k + 1, hk => by
    obtain ⟨p, i1, i2, i3, i4, i5⟩ := bars_segs h depth k (by omega)
    have hpk : p ≤ k := by omega
    have hm : (barsN vs d depth k).2.more (d.getD k default) (timesV vs (d.getD k default)) = seg vs d p (k + 1) := by
      have hs := h.succ (s := p) hpk (by omega : k < d.length)
      rcases i5 with ⟨rfl, e⟩ | ⟨q1, q2, e⟩
      · rw [e]
        rw [sl_self, cntIn_nil] at hs
        simp [Bar.more, zBar, seg, hs]
      · rw [e]
        have hg := h.ge (s := p) (j := k) (by omega) (by omega)
        have h0 : ¬ ((cntIn vs (sl d p k) : Nat) : Int) = 0 := by omega
        simp only [Bar.more, seg, if_neg h0, Nat.add_sub_cancel, hs, Bar.mk.injEq]
        refine ⟨if_neg h0, trivial, by omega, by omega, by omega⟩
    rw [barsN_succ, hm]
    by_cases hc : depth ≤ (seg vs d p (k + 1)).rows ∨ k + 1 = d.length
    · rw [if_pos hc]
      refine ⟨k + 1, Nat.le_refl _, i2.snoc (by omega) hk, ?_, ?_, .inl ⟨rfl, rfl⟩⟩
      · simp only [List.dropLast_concat]
        exact i4 (by omega)
      · intro hlt b hb
        rcases List.mem_append.1 hb with hb | hb
        · exact i4 (by omega) b hb
        · rw [List.mem_singleton.1 hb]
          exact hc.resolve_right (by omega)
    · rw [if_neg hc]
      exact ⟨p, by omega, i2, i3, fun _ => i4 (by omega), .inr ⟨by omega, by omega, rfl⟩⟩
theorem Segs.facts {vs d : List VL} (h : Ctx vs d) : ∀ {l : List Bar} {s : Nat}, Segs vs d s l d.length → s ≤ d.length → ∀ b ∈ l, ∃ i j, s ≤ i ∧ i < j ∧ j ≤ d.length ∧ b = seg vs d i j
  | [], _, _, _, b, hb => by cases hb
  | c :: l, s, hs, hl, b, hb => by
    obtain ⟨q, a1, a2, rfl, a4⟩ := hs
    rcases List.mem_cons.1 hb with rfl | hb
    · exact ⟨s, q, Nat.le_refl _, a1, a2, rfl⟩
    · obtain ⟨i, j, b1, b2, b3, b4⟩ := a4.facts h a2 b hb
      exact ⟨i, j, by omega, b2, b3, b4⟩
theorem Segs.le {vs d : List VL} : ∀ {l : List Bar} {s p : Nat}, Segs vs d s l p → s ≤ p ∧ (s < p → l ≠ [])
  | [], s, p, h => by cases h; exact ⟨Nat.le_refl _, fun h => absurd h (by omega)⟩
  | b :: l, s, p, h => by
    obtain ⟨q, a1, a2, a3, a4⟩ := h
    have := a4.le
    exact ⟨by omega, fun _ => by simp⟩
theorem Segs.total {vs d : List VL} (h : Ctx vs d) : ∀ {l : List Bar} {s : Nat}, Segs vs d s l d.length → (cntIn vs (sl d s d.length) : Int) = sumRows l
  | [], s, hs => by
    cases hs
    rw [sl_self, cntIn_nil]; rfl
  | c :: l, s, hs => by
    obtain ⟨q, a1, a2, rfl, a4⟩ := hs
    have h1 := a4.total h
    have h2 := h.add (s := s) (j := q) (p := d.length) (by omega) a2 (Nat.le_refl _)
    have h3 : sumRows (seg vs d s q :: l) = (seg vs d s q).rows + sumRows l := rfl
    have h4 : (seg vs d s q).rows = cntIn vs (sl d s q) := rfl
    rw [h3, h4, ← h1]
    omega
/-- What one bar over some of the values is. -/
theorem seg_rt {K : Int} {vs d : List VL} (h : Ctx vs d) (hr : ∀ v ∈ vs, v.Right ∧ v.k = K) (hK : K ≠ 0) {i j : Nat} (hij : i < j) (hj : j ≤ d.length) : (seg vs d i j).rtC K = true := by
  have m1 := (h.mem _).1 (getD_mem (l := d) (i := i) (by omega))
  have m2 := (h.mem _).1 (getD_mem (l := d) (i := j - 1) (by omega))
  obtain ⟨r1, k1⟩ := hr _ m1
  obtain ⟨r2, k2⟩ := hr _ m2
  have hge := h.ge (s := i) (j := j) (by omega) hj
  have hs : (seg vs d i j).single = decide (j = i + 1) := by
    unfold Bar.single
    rw [decide_eq_decide]
    constructor
    · intro e
      by_cases hc : j = i + 1
      · exact hc
      · exact absurd e (cmp_lt_ne (asc_lt h.asc (by omega : i < j - 1) (by omega)))
    · rintro rfl
      rfl
  have hle : (d.getD i default).cmp (d.getD (j - 1) default) ≤ 0 := by
    by_cases hc : i = j - 1
    · rw [← hc, vl_cmp.self]; omega
    · have := asc_lt h.asc (by omega : i < j - 1) (by omega)
      omega
  simp only [Bar.rtC, hs, Bool.and_eq_true, decide_eq_true_eq, Bool.not_eq_true', Bool.and_eq_false_iff, decide_eq_false_iff_not]
  refine ⟨⟨⟨⟨⟨⟨⟨⟨⟨⟨r1, r2⟩, ?_⟩, ?_⟩, k1⟩, ?_⟩, hle⟩, ?_⟩, ?_⟩, ?_⟩, ?_⟩
  · show (d.getD i default).k ≠ 0
    omega
  · show (d.getD i default).k = (d.getD (j - 1) default).k
    omega
  · show (1 : Int) ≤ (cntIn vs (sl d i j) : Nat)
    omega
  · show _ ≤ ((j - i : Nat) : Int)
    split <;> omega
  · exact Int.le_refl _
  · show ((j - i : Nat) : Int) ≤ (cntIn vs (sl d i j) : Nat)
    omega
  · by_cases hc : j = i + 1
    · right
      show ¬ (1 : Int) < ((j - i : Nat) : Int)
      omega
    · left; exact hc
theorem segs_ok {K : Int} {vs d : List VL} (h : Ctx vs d) (hr : ∀ v ∈ vs, v.Right ∧ v.k = K) (hK : K ≠ 0) : ∀ {l : List Bar} {s : Nat} {p : Option VL} {n R : Int}, Segs vs d s l d.length → (∀ v, p = some v → 0 < s ∧ v = d.getD (s - 1) default) →
    n + sumRows l = R → okFrom (fun b => b.rtC K) VL.cmp R p n l = true
  | [], s, p, n, R, hs, hp, hn => by
    simp only [okFrom, decide_eq_true_eq]
    simpa [sumRows] using hn
  | c :: l, s, p, n, R, hs, hp, hn => by
    have ht := hs.total h
    obtain ⟨q, a1, a2, rfl, a4⟩ := hs
    have h1 := a4.total h
    have h3 : sumRows (seg vs d s q :: l) = (seg vs d s q).rows + sumRows l := rfl
    rw [h3] at hn
    simp only [okFrom, Bool.and_eq_true, decide_eq_true_eq]
    refine ⟨⟨⟨seg_rt h hr hK a1 a2, by omega⟩, ?_⟩, segs_ok h hr hK a4 (fun v hv => by cases hv; exact ⟨by omega, rfl⟩) (by omega)⟩
    cases p with
    | none => rfl
    | some v =>
      obtain ⟨g1, g2⟩ := hp v rfl
      simp only [decide_eq_true_eq]
      rw [g2]
      exact asc_lt h.asc (by omega) (by omega)
theorem inB_cmp {b : Bar} {v : VL} (hb : b.lo.Right ∧ b.hi.Right) (hv : v.Right) (hk : v.k = b.lo.k) : inB b v = (decide (b.lo.cmp v ≤ 0) && decide (v.cmp b.hi ≤ 0)) := by
  unfold inB
  rw [← VL.cmp_full hv hb.1, ← VL.cmp_full hv hb.2]
  have := vl_cmp.anti b.lo v
  rw [decide_eq_true hk, Bool.true_and]
  congr 1
  rw [decide_eq_decide]
  omega
theorem seg_desc {K : Int} {vs d : List VL} (h : Ctx vs d) (hr : ∀ v ∈ vs, v.Right ∧ v.k = K) {i j : Nat} (hij : i < j) (hj : j ≤ d.length) : DescB vs (seg vs d i j) := by
  have m1 := (h.mem _).1 (getD_mem (l := d) (i := i) (by omega))
  have m2 := (h.mem _).1 (getD_mem (l := d) (i := j - 1) (by omega))
  obtain ⟨r1, k1⟩ := hr _ m1
  obtain ⟨r2, k2⟩ := hr _ m2
  have hin : ∀ v ∈ vs, inB (seg vs d i j) v = decide (v ∈ sl d i j) := by
    intro v hv
    obtain ⟨rv, kv⟩ := hr v hv
    rw [inB_cmp ⟨r1, r2⟩ rv (by show v.k = (d.getD i default).k; omega)]
    show (decide ((d.getD i default).cmp v ≤ 0) && decide (v.cmp (d.getD (j - 1) default) ≤ 0)) = _
    rw [Bool.eq_iff_iff]
    simp only [Bool.and_eq_true, decide_eq_true_eq, sl_mem hj]
    obtain ⟨t, ht, rfl⟩ : ∃ t, t < d.length ∧ d.getD t default = v := by
      obtain ⟨t, ht, e⟩ := List.getElem_of_mem ((h.mem v).2 hv)
      exact ⟨t, ht, by rw [List.getD_eq_getElem?_getD, List.getElem?_eq_getElem ht, Option.getD_some, e]⟩
    constructor
    · rintro ⟨g1, g2⟩
      refine ⟨t, ?_, ?_, rfl⟩
      · by_cases hc : t < i
        · have := asc_lt h.asc hc (by omega)
          have := vl_cmp.anti (d.getD t default) (d.getD i default)
          omega
        · omega
      · by_cases hc : j - 1 < t
        · have := asc_lt h.asc hc ht
          have := vl_cmp.anti (d.getD (j - 1) default) (d.getD t default)
          omega
        · omega
    · rintro ⟨u, u1, u2, u3⟩
      rw [← u3]
      constructor
      · by_cases hc : i = u
        · rw [hc, vl_cmp.self]; omega
        · have := asc_lt h.asc (by omega : i < u) (by omega)
          omega
      · by_cases hc : u = j - 1
        · rw [hc, vl_cmp.self]; omega
        · have := asc_lt h.asc (by omega : u < j - 1) (by omega)
          omega
  have hf : vs.filter (inB (seg vs d i j)) = vs.filter fun v => decide (v ∈ sl d i j) := List.filter_congr hin
  have hdd : diffV (vs.filter (inB (seg vs d i j))) = sl d i j := by
    have hrr : ∀ u ∈ vs.filter (inB (seg vs d i j)), u.Right := fun u hu => (hr u (List.mem_filter.1 hu).1).1
    obtain ⟨e1, e2⟩ := diffV_spec _ hrr
    refine asc_uniq e1 (h.asc.sublist (sl_sub d i j)) fun u => ?_
    rw [e2, hf, List.mem_filter, decide_eq_true_eq]
    exact ⟨fun q => q.2, fun q => ⟨(h.mem u).1 ((sl_sub d i j).subset q), q⟩⟩
  refine ⟨?_, ?_, ?_, ?_, ?_⟩
  · rw [hf]; rfl
  · rw [hdd, sl_len hj]; exact Int.le_refl _
  · rw [hdd, sl_len hj]; exact Int.le_refl _
  · have := h.times (k := i) (by omega)
    show timesV vs (d.getD i default) ≠ 0
    omega
  · have := h.times (k := j - 1) (by omega)
    show timesV vs (d.getD (j - 1) default) ≠ 0
    omega
end Go.Proofs.Try

namespace Go.Proofs.Try
set_option linter.unusedVariables false
set_option linter.unusedSimpArgs false

theorem sumRows_app (l k : List Bar) : sumRows (l ++ k) = sumRows l + sumRows k := by
  induction l with
  | nil => simp [sumRows]
  | cons b l ih =>
    have h1 : sumRows (b :: l) = b.rows + sumRows l := rfl
    have h2 : sumRows (b :: l ++ k) = b.rows + sumRows (l ++ k) := rfl
    rw [h1, h2, ih]; omega
theorem sumRows_ge {D : Int} : ∀ l : List Bar, (∀ b ∈ l, D ≤ b.rows) → (l.length : Int) * D ≤ sumRows l
  | [], _ => by simp [sumRows]
  | b :: l, h => by
    have h1 := sumRows_ge l fun c hc => h c (by simp [hc])
    have h2 := h b (by simp)
    have h3 : sumRows (b :: l) = b.rows + sumRows l := rfl
    rw [h3, List.length_cons, Int.natCast_add, Int.add_mul]
    simp
    omega
theorem depth_ge {n most : Int} (hn : 0 ≤ n) (hm : 1 ≤ most) : n ≤ most * depthV n most := by
  unfold depthV
  rw [Int.tdiv_eq_ediv_of_nonneg hn, Int.tmod_eq_emod_of_nonneg hn]
  have h1 := Int.mul_ediv_add_emod n most
  have h2 := Int.emod_lt_of_pos n (by omega : 0 < most)
  have h3 := Int.emod_nonneg n (by omega : most ≠ 0)
  rw [Int.mul_add]
  split
  · omega
  · omega
theorem values_right {l : List (List VL)} {col : Int} (hf : fewR l) (hc : ∀ r ∈ l, 0 ≤ col ∧ col < (r.length : Int)) : ∀ v ∈ valuesC l col.toNat, v.Right ∧ v.k ≠ 0 := by
  intro v hv
  obtain ⟨h1, h2⟩ := List.mem_filter.1 hv
  obtain ⟨r, hr, rfl⟩ := List.mem_map.1 h1
  have h3 := hc r hr
  refine ⟨(hf.1 r hr).1 _ (getD_mem (by omega)), by simpa using h2⟩
theorem bars_count {vs d : List VL} (h : Ctx vs d) {depth most : Int} (hd : (vs.length : Int) ≤ most * depth) (hm : 1 ≤ most) : ((barsN vs d depth d.length).1.length : Int) ≤ most ∧ Segs vs d 0 (barsN vs d depth d.length).1 d.length := by
  obtain ⟨p, h1, h2, h3, _, h5⟩ := bars_segs h depth d.length (Nat.le_refl _)
  have hp : p = d.length := by
    rcases h5 with ⟨a, _⟩ | ⟨_, a, _⟩
    · exact a
    · omega
  subst hp
  have ht := h2.total h
  rw [sl_all, cntIn_all fun v hv => (h.mem v).2 hv] at ht
  have hfa := h2.facts h (Nat.zero_le _)
  refine ⟨?_, h2⟩
  generalize (barsN vs d depth d.length).1 = bs at *
  by_cases hb : bs = []
  · subst hb
    simp
    omega
  have he := List.dropLast_concat_getLast hb
  obtain ⟨i, j, a1, a2, a3, a4⟩ := hfa _ (List.getLast_mem hb)
  have hlast : 1 ≤ (bs.getLast hb).rows := by
    have := h.ge (s := i) (j := j) (by omega) a3
    rw [a4]
    show (1 : Int) ≤ (cntIn vs (sl d i j) : Nat)
    omega
  have hs := sumRows_ge _ h3
  have hs2 := sumRows_app bs.dropLast [bs.getLast hb]
  rw [he] at hs2
  have hs3 : sumRows [bs.getLast hb] = (bs.getLast hb).rows := by simp [sumRows]
  have hlen : bs.length = bs.dropLast.length + 1 := by
    have := List.length_pos_iff.2 hb
    simp; omega
  by_cases hc : (bs.length : Int) ≤ most
  · exact hc
  exfalso
  have hdep : 0 ≤ depth := by
    rcases Int.lt_or_le depth 0 with hq | hq
    · have := Int.mul_lt_mul_of_pos_left hq (by omega : 0 < most)
      simp at this
      omega
    · exact hq
  have := Int.mul_le_mul_of_nonneg_right (by omega : most ≤ (bs.dropLast.length : Int)) hdep
  omega
theorem hist_desc {l : List (List VL)} {col most : Int} (hf : fewR l) (h : (histOf l col most).2 = 0) :
    Desc (histOf l col most).1 (valuesC l col.toNat) l.length ∧ ((histOf l col most).1.bars.length : Int) ≤ most ∧ (∀ r ∈ l, 0 ≤ col ∧ col < (r.length : Int)) := by
  unfold histOf at h ⊢
  by_cases ha : argOk l col most = true
  · rw [if_pos ha] at h ⊢
    by_cases ho : oneKind (valuesC l col.toNat) = true
    · rw [if_pos ho]
      simp only [argOk, Bool.and_eq_true, decide_eq_true_eq] at ha
      obtain ⟨hc, hm1, hm2⟩ := ha
      have hvr := values_right hf hc
      have hvl : (valuesC l col.toNat).length ≤ l.length := Nat.le_trans (List.length_filter_le _ _) (by simp)
      have hl60 := hf.2
      generalize hV : valuesC l col.toNat = vs at *
      obtain ⟨K, hK, hr⟩ : ∃ K : Int, K ≠ 0 ∧ ∀ v ∈ vs, v.Right ∧ v.k = K := by
        cases vs with
        | nil => exact ⟨1, by omega, fun v hv => by cases hv⟩
        | cons v vs =>
          simp only [oneKind, decide_eq_true_eq] at ho
          exact ⟨v.k, (hvr v (by simp)).2, fun u hu => ⟨(hvr u hu).1, by simpa using ho u hu⟩⟩
      have hx : Ctx vs (diffV vs) := by
        obtain ⟨e1, e2⟩ := diffV_spec vs fun u hu => (hr u hu).1
        exact ⟨e1, e2⟩
      obtain ⟨hcnt, hseg⟩ := bars_count hx (depth_ge (n := vs.length) (by omega) hm1) hm1
      have hfa := hseg.facts hx (Nat.zero_le _)
      have ht := hseg.total hx
      rw [sl_all, cntIn_all fun v hv => (hx.mem v).2 hv] at ht
      refine ⟨⟨?_, rfl, rfl, ?_⟩, hcnt, hc⟩
      · rw [← chk_eq]
        simp only [Hist.chkC, Hist.ok, Bool.and_eq_true, decide_eq_true_eq]
        refine ⟨⟨⟨⟨by omega, by omega⟩, by omega⟩, by omega⟩, ?_⟩
        have hok := segs_ok hx hr hK (p := none) (n := (l.length : Int) - vs.length) (R := l.length) hseg (fun v hv => by cases hv) (by omega)
        generalize (barsN vs (diffV vs) (depthV vs.length most) (diffV vs).length).1 = bs at *
        cases bs with
        | nil => exact hok
        | cons b bs =>
          obtain ⟨i, j, a1, a2, a3, a4⟩ := hfa b (by simp)
          have hk : b.lo.k = K := by
            rw [a4]
            exact (hr _ ((hx.mem _).1 (getD_mem (l := diffV vs) (i := i) (by omega)))).2
          show okFrom (fun c => c.rtC b.lo.k) VL.cmp _ none _ (b :: bs) = true
          rw [hk]
          exact hok
      · intro b hb
        obtain ⟨i, j, a1, a2, a3, a4⟩ := hfa b hb
        rw [a4]
        exact seg_desc hx hr a2 a3
    · rw [if_neg ho] at h
      simp at h
  · rw [if_neg ha] at h
    simp at h
end Go.Proofs.Try

namespace Go.Proofs.Try
set_option linter.unusedVariables false
set_option linter.unusedSimpArgs false

/-! ### values by bars -/
def S (g : VL → Int) (V : List VL) : Int := (V.map g).sum
def SB (g : Bar → Int) (l : List Bar) : Int := (l.map g).sum
theorem S_nil (g : VL → Int) : S g [] = 0 := rfl
theorem S_cons (g : VL → Int) (v : VL) (V : List VL) : S g (v :: V) = g v + S g V := by simp [S]
theorem SB_nil (g : Bar → Int) : SB g [] = 0 := rfl
theorem SB_cons (g : Bar → Int) (v : Bar) (V : List Bar) : SB g (v :: V) = g v + SB g V := by simp [SB]
theorem S_le {g f : VL → Int} : ∀ {V : List VL}, (∀ v ∈ V, g v ≤ f v) → S g V ≤ S f V
  | [], _ => Int.le_refl _
  | v :: V, h => by
    rw [S_cons, S_cons]
    have := S_le fun u hu => h u (List.mem_cons_of_mem v hu)
    have := h v (by simp)
    omega
theorem SB_le {g f : Bar → Int} : ∀ {V : List Bar}, (∀ v ∈ V, g v ≤ f v) → SB g V ≤ SB f V
  | [], _ => Int.le_refl _
  | v :: V, h => by
    rw [SB_cons, SB_cons]
    have := SB_le fun u hu => h u (List.mem_cons_of_mem v hu)
    have := h v (by simp)
    omega
theorem S_congr {g f : VL → Int} {V : List VL} (h : ∀ v ∈ V, g v = f v) : S g V = S f V := by
  unfold S; rw [List.map_congr_left h]
theorem SB_congr {g f : Bar → Int} {V : List Bar} (h : ∀ v ∈ V, g v = f v) : SB g V = SB f V := by
  unfold SB; rw [List.map_congr_left h]
theorem S_const (c : Int) : ∀ V : List VL, S (fun _ => c) V = V.length * c
  | [] => by simp [S]
  | v :: V => by
    rw [S_cons, S_const c V, List.length_cons, Int.natCast_add, Int.add_mul]; simp; omega
theorem S_one (V : List VL) : S (fun _ => 1) V = V.length := by rw [S_const]; omega
theorem S_nonneg {g : VL → Int} {V : List VL} (h : ∀ v ∈ V, 0 ≤ g v) : 0 ≤ S g V := by
  have := S_le (g := fun _ => 0) h
  rw [S_const] at this
  omega
theorem S_add (g f : VL → Int) : ∀ V : List VL, S (fun v => g v + f v) V = S g V + S f V
  | [] => rfl
  | v :: V => by rw [S_cons, S_cons, S_cons, S_add g f V]; omega
theorem S_SB (g : Bar → VL → Int) (V : List VL) : ∀ l : List Bar, S (fun v => SB (fun x => g x v) l) V = SB (fun x => S (g x) V) l
  | [] => by simp only [SB_nil]; rw [S_const]; omega
  | x :: l => by
    rw [SB_cons, ← S_SB g V l, ← S_add]
    exact S_congr fun v _ => SB_cons _ _ _
theorem SB_zero : ∀ l : List Bar, SB (fun _ => 0) l = 0
  | [] => rfl
  | x :: l => by rw [SB_cons, SB_zero l]; rfl
theorem SB_add (g f : Bar → Int) : ∀ V : List Bar, SB (fun v => g v + f v) V = SB g V + SB f V
  | [] => rfl
  | v :: V => by rw [SB_cons, SB_cons, SB_cons, SB_add g f V]; omega
theorem SB_swap (g : Bar → Bar → Int) (k : List Bar) : ∀ l : List Bar, SB (fun x => SB (fun y => g x y) k) l = SB (fun y => SB (fun x => g x y) l) k
  | [] => by
    simp only [SB_nil]
    rw [SB_zero]
  | x :: l => by
    rw [SB_cons, SB_swap g k l, ← SB_add]
    exact SB_congr fun y _ => (SB_cons (fun x => g x y) x l).symm
theorem S_filter (g : VL → Int) (p : VL → Bool) : ∀ V : List VL, S g (V.filter p) = S (fun v => if p v = true then g v else 0) V
  | [] => rfl
  | v :: V => by
    rw [S_cons, List.filter_cons]
    split
    · rename_i h; rw [S_cons, S_filter g p V]
    · rename_i h; rw [S_filter g p V]; omega
theorem timesV_S (V : List VL) (v : VL) : (timesV V v : Int) = S (fun u => cntB (decide (u = v))) V := by
  unfold timesV
  rw [← S_one, S_filter]
  exact S_congr fun u _ => by simp [cntB]
/-- Bars that take every value in, once. -/
structure Cover (bs : List Bar) (V : List VL) : Prop where
  one : ∀ v ∈ V, SB (fun x => cntB (inB x v)) bs = 1
theorem Cover.split {bs : List Bar} {V : List VL} (h : Cover bs V) (g : VL → Int) : S g V = SB (fun x => S g (V.filter (inB x))) bs := by
  have e : ∀ x : Bar, S g (V.filter (inB x)) = S (fun v => cntB (inB x v) * g v) V := fun x => by
    rw [S_filter]
    exact S_congr fun v _ => by unfold cntB; split <;> simp
  rw [SB_congr fun x _ => e x, ← S_SB fun x v => cntB (inB x v) * g v]
  refine S_congr fun v hv => ?_
  have := h.one v hv
  have hm : ∀ l : List Bar, SB (fun x => cntB (inB x v) * g v) l = SB (fun x => cntB (inB x v)) l * g v := by
    intro l
    induction l with
    | nil => simp [SB]
    | cons x l ih => rw [SB_cons, SB_cons, ih, Int.add_mul]
  rw [hm, this, Int.one_mul]
theorem sumRows_SB (l : List Bar) : sumRows l = SB (fun b => b.rows) l := by
  induction l with
  | nil => rfl
  | cons b l ih =>
    have h3 : sumRows (b :: l) = b.rows + sumRows l := rfl
    rw [h3, ih, SB_cons]
theorem inB_facts {x : Bar} {v : VL} (hx : RtB x) (hv : v.Right) (h : inB x v = true) : v.k = x.lo.k ∧ x.lo.cmp v ≤ 0 ∧ v.cmp x.hi ≤ 0 := by
  have hk : v.k = x.lo.k := by
    simp only [inB, Bool.and_eq_true, decide_eq_true_eq] at h
    exact h.1.1
  rw [inB_cmp ⟨hx.lo, hx.hi⟩ hv hk] at h
  simp only [Bool.and_eq_true, decide_eq_true_eq] at h
  exact ⟨hk, h⟩
theorem cover_le {v : VL} (hv : v.Right) : ∀ {bs : List Bar}, (∀ b ∈ bs, RtB b) → bs.Pairwise (fun x y => x.hi.cmp y.lo < 0) → SB (fun x => cntB (inB x v)) bs ≤ 1 ∧ 0 ≤ SB (fun x => cntB (inB x v)) bs
  | [], _, _ => by simp [SB]
  | b :: bs, hr, hp => by
    obtain ⟨h1, h2⟩ := List.pairwise_cons.1 hp
    obtain ⟨i1, i2⟩ := cover_le hv (fun c hc => hr c (by simp [hc])) h2
    rw [SB_cons]
    by_cases hb : inB b v = true
    · have h0 : SB (fun x => cntB (inB x v)) bs = 0 := by
        have hz : ∀ x ∈ bs, cntB (inB x v) = 0 := fun x hx => by
          by_cases hxv : inB x v = true
          · obtain ⟨_, _, a3⟩ := inB_facts (hr b (by simp)) hv hb
            obtain ⟨_, b2, _⟩ := inB_facts (hr x (by simp [hx])) hv hxv
            have h3 := h1 x hx
            have h4 := vl_cmp.trans _ _ _ a3 (by omega : b.hi.cmp x.lo ≤ 0)
            have h5 := vl_cmp.anti v x.lo
            have h6 := vl_cmp.eq v x.lo (by omega)
            rw [← h6] at h3
            have h7 := vl_cmp.anti v b.hi
            omega
          · simp [cntB, hxv]
        rw [SB_congr hz, SB_zero]
      rw [h0]
      unfold cntB
      split <;> omega
    · simp only [cntB, hb] at i1 i2 ⊢
      simp
      exact ⟨i1, i2⟩
theorem all_one {g : VL → Int} : ∀ {V : List VL}, (∀ v ∈ V, g v ≤ 1) → S g V = V.length → ∀ v ∈ V, g v = 1
  | [], _, _, v, hv => by cases hv
  | u :: V, h, hs, v, hv => by
    rw [S_cons, List.length_cons] at hs
    have h1 := S_le (g := g) (f := fun _ => 1) fun w (hw : w ∈ V) => h w (by simp [hw])
    rw [S_one] at h1
    have h2 := h u (by simp)
    rcases List.mem_cons.1 hv with rfl | hv
    · omega
    · exact all_one (fun w hw => h w (by simp [hw])) (by omega) v hv
theorem Desc.cover {h : Hist} {V : List VL} {n : Nat} (hd : Desc h V n) (hV : ∀ v ∈ V, v.Right) : Cover h.bars V := by
  have hk := hok ((chk_eq h).trans hd.chk)
  have hsum := hk.sum
  rw [hd.rows, hd.nulls, sumRows_SB, SB_congr fun b hb => (hd.bars b hb).rows.symm] at hsum
  have hrt : ∀ b ∈ h.bars, RtB b := fun b hb => hk.rt hb
  refine ⟨all_one (fun v hv => (cover_le (hV v hv) hrt hk.apart).1) ?_⟩
  rw [S_SB]
  have e : ∀ b ∈ h.bars, ((V.filter (inB b)).length : Int) = S (fun v => cntB (inB b v)) V := fun b _ => by
    rw [← S_one, S_filter]
    rfl
  rw [← SB_congr e]
  omega
end Go.Proofs.Try

namespace Go.Proofs.Try
set_option linter.unusedVariables false
set_option linter.unusedSimpArgs false

/-! ### estimates: both ways alike -/
theorem rg_right {x : RG} (h : x.rt = true) : x.lo.Right ∧ x.hi.Right := by
  unfold RG.rt at h
  split at h
  · simp only [Bool.and_eq_true, decide_eq_true_eq] at h
    obtain ⟨_, h1, h2, _⟩ := h
    rw [h1, h2]
    exact ⟨.inl ⟨rfl, rfl, rfl⟩, .inl ⟨rfl, rfl, rfl⟩⟩
  · simp only [Bool.and_eq_true, decide_eq_true_eq] at h
    exact ⟨h.1.1.1.1.1, h.1.1.1.1.2⟩
theorem cmp_self0 {a b : VL} : a.cmp b = 0 ↔ a = b := ⟨vl_cmp.eq _ _, fun h => by rw [h]; exact vl_cmp.self _⟩
theorem has_eq {x : RG} {v : VL} (hx : x.rt = true) (hv : v.Right) : x.has v = x.has19 v := by
  obtain ⟨h1, h2⟩ := rg_right hx
  have c1 := VL.cmp_full hv h1
  have c2 := VL.cmp_full hv h2
  have e1 := cmp_self0 (a := v) (b := x.lo)
  have e2 := cmp_self0 (a := v) (b := x.hi)
  rw [Bool.eq_iff_iff]
  simp only [RG.has, RG.has19, ← c1, ← c2, ← e1, ← e2]
  generalize v.cmp x.lo = p at *
  generalize v.cmp x.hi = q at *
  clear c1 c2 e1 e2 h1 h2 hx
  cases x.e <;> cases x.all <;> cases x.nl <;> simp
  by_cases hk : v.k = 0 <;> simp [hk]
  cases x.li <;> cases x.ri <;> simp <;> omega
theorem apart_eq {b : Bar} {x : RG} (hx : x.rt = true) (hb : RtB b) : b.apart x = b.apart19 x := by
  obtain ⟨h1, h2⟩ := rg_right hx
  have c1 := VL.cmp_full hb.hi h1
  have c2 := VL.cmp_full hb.lo h2
  have e1 := cmp_self0 (a := b.hi) (b := x.lo)
  have e2 := cmp_self0 (a := b.lo) (b := x.hi)
  rw [Bool.eq_iff_iff]
  simp only [Bar.apart, Bar.apart19, ← c1, ← c2, ← e1, ← e2]
  generalize b.hi.cmp x.lo = p at *
  generalize b.lo.cmp x.hi = q at *
  clear c1 c2 e1 e2 h1 h2 hx
  cases x.li <;> cases x.ri <;> simp <;> (repeat' split) <;> (try simp) <;> (try omega)
theorem within_eq {b : Bar} {x : RG} (hx : x.rt = true) (hb : RtB b) : b.within x = b.one x := by
  unfold Bar.within Bar.one
  rw [has_eq hx hb.lo, has_eq hx hb.hi, apart_eq hx hb]
  cases x.has19 b.lo <;> cases x.has19 b.hi <;> simp [cntB]
theorem est_law {h : Hist} {x : RG} (hh : HOk h) (hx : x.rt = true) : h.est x = h.est19 x := by
  unfold Hist.est Hist.est19 estS
  have : ∀ (l : List Bar) (p : Int × Int), (∀ b ∈ l, RtB b) → l.foldl (fun p b => addP p (b.within x)) p = l.foldl (fun p b => addP p (b.one x)) p := by
    intro l
    induction l with
    | nil => intro p _; rfl
    | cons b l ih =>
      intro p hl
      simp only [List.foldl_cons]
      rw [within_eq hx (hl b (by simp))]
      exact ih _ fun c hc => hl c (by simp [hc])
  rw [this _ _ fun b hb => hh.rt hb]

/-! ### joins: both ways alike -/
theorem diff_one (v : VL) : diffV [v, v] = [v] := by
  by_cases h : v.cmp19 v ≤ 0 <;> simp [diffV, withV, withN, h]
theorem diff_two {v u : VL} (y : Bar) (h : v ≠ u) : cntE y (diffV [v, u]) = cntE y [v, u] := by
  by_cases hc : u.cmp19 v ≤ 0
  · have e : diffV [v, u] = [u, v] := by simp [diffV, withV, withN, hc, h]
    rw [e]
    unfold cntE
    exact ((List.Perm.swap v u []).filter _).length_eq
  · have e : diffV [v, u] = [v, u] := by simp [diffV, withV, withN, hc, h]
    rw [e]
theorem ends_eq (y : Bar) (v : VL) : isEnd y v = y.ends v := by
  unfold isEnd Bar.ends
  rw [decide_eq_decide.2 (eq_comm (a := v) (b := y.lo)), decide_eq_decide.2 (eq_comm (a := v) (b := y.hi))]
theorem cntE_two (y : Bar) (v u : VL) : ((cntE y [v, u] : Nat) : Int) = cntB (y.ends v) + cntB (y.ends u) := by
  simp only [cntE, List.filter_cons, List.filter_nil, ends_eq, cntB]
  cases y.ends v <;> cases y.ends u <;> simp
theorem cntE_one (y : Bar) (v : VL) : ((cntE y [v] : Nat) : Int) = cntB (y.ends v) := by
  simp only [cntE, List.filter_cons, List.filter_nil, ends_eq, cntB]
  cases y.ends v <;> simp
theorem meet_eq {x y : Bar} (hx : RtB x) (hy : RtB y) : (decide (x.lo.k = y.lo.k) && x.meet y) = x.meet19 y := by
  unfold Bar.meet Bar.meet19
  rw [VL.cmp_full hx.lo hy.hi, VL.cmp_full hy.lo hx.hi]
theorem shared_eq {x y : Bar} (hx : RtB x) (hy : RtB y) (hm : x.meet y = true) : pLeast x y = x.shared y := by
  simp only [Bar.meet, Bool.and_eq_true, decide_eq_true_eq] at hm
  obtain ⟨m1, m2⟩ := hm
  unfold pLeast Bar.shared sharedN Bar.single
  by_cases h1 : x.lo = x.hi
  · have h2 : diffV [x.lo, x.hi] = [x.lo] := by rw [← h1]; exact diff_one _
    rw [h2, cntE_one]
    by_cases h3 : y.lo = y.hi
    · have h4 : y.lo = x.lo := by
        rw [← h3] at m1
        rw [← h1] at m2
        have := vl_cmp.anti x.lo y.lo
        exact vl_cmp.eq _ _ (by omega)
      have h5 : y.ends x.lo = true := by simp [Bar.ends, h4]
      simp [h1, h3, h5, cntB]
      simp [← h1, h5]
    · simp [← h1, h3, Int.mul_comm]
  · rw [diff_two y h1, cntE_two]
    by_cases h3 : y.lo = y.hi
    · simp only [h1, h3, decide_false, decide_true, Bool.false_and, Bool.false_eq_true, if_false, if_true, false_and]
      have h4 : cntB (x.ends y.hi) = cntB (y.ends x.lo) + cntB (y.ends x.hi) := by
        simp only [Bar.ends, h3, Bool.or_self]
        unfold cntB
        by_cases a : x.lo = y.hi
        · have b : ¬ x.hi = y.hi := fun q => h1 (a.trans q.symm)
          have c : ¬ y.hi = x.hi := fun q => b q.symm
          simp [a, b, c]
        · have a' : ¬ y.hi = x.lo := fun q => a q.symm
          by_cases b : x.hi = y.hi
          · simp [a, a', b]
          · have b' : ¬ y.hi = x.hi := fun q => b q.symm
            simp [a, a', b, b']
      rw [h4, Int.mul_comm]
    · simp [h1, h3]
theorem join_eq {x y : Bar} (hx : RtB x) (hy : RtB y) : joinC x y = joinR x y := by
  unfold joinC joinR
  rw [meet_eq hx hy]
  split
  · rename_i h
    rw [← meet_eq hx hy, Bool.and_eq_true] at h
    rw [shared_eq hx hy h.2]
  · rfl
theorem join_law {a b : Hist} (ha : HOk a) (hb : HOk b) : joinAll joinC a.bars b.bars = joinAll joinR a.bars b.bars := by
  have h1 : ∀ (l : List Bar) (x : Bar) (p : Int × Int), RtB x → (∀ y ∈ l, RtB y) → joinRow joinC x l p = joinRow joinR x l p := by
    intro l x p hx
    induction l generalizing p with
    | nil => intro _; rfl
    | cons y l ih =>
      intro hl
      simp only [joinRow, List.foldl_cons] at ih ⊢
      rw [join_eq hx (hl y (by simp))]
      exact ih _ fun z hz => hl z (by simp [hz])
  have h2 : ∀ (k : List Bar) (p : Int × Int), (∀ x ∈ k, RtB x) → k.foldl (fun p x => joinRow joinC x b.bars p) p = k.foldl (fun p x => joinRow joinR x b.bars p) p := by
    intro k
    induction k with
    | nil => intro p _; rfl
    | cons x k ih =>
      intro p hk
      simp only [List.foldl_cons]
      rw [h1 _ _ _ (hk x (by simp)) fun y hy => hb.rt hy]
      exact ih _ fun z hz => hk z (by simp [hz])
  exact h2 _ _ fun x hx => ha.rt hx
end Go.Proofs.Try

namespace Go.Proofs.Try
set_option linter.unusedVariables false
set_option linter.unusedSimpArgs false

/-! ### joins hold -/
theorem timesV_pos {V : List VL} {v : VL} (h : v ∈ V) : 1 ≤ timesV V v := by
  unfold timesV
  exact List.length_pos_of_mem (a := v) (List.mem_filter.2 ⟨h, by simp⟩)
theorem timesV_mem {V : List VL} {v : VL} (h : timesV V v ≠ 0) : v ∈ V := by
  unfold timesV at h
  cases hf : V.filter fun u => decide (u = v) with
  | nil => rw [hf] at h; simp at h
  | cons u l =>
    have hm : u ∈ V.filter fun u => decide (u = v) := by rw [hf]; simp
    obtain ⟨h1, h2⟩ := List.mem_filter.1 hm
    have : u = v := by simpa using h2
    rw [← this]; exact h1
/-- Pairs of equal values. -/
def pairs (V U : List VL) : Int := S (fun v => (timesV U v : Int)) V
theorem pairs_symm (V U : List VL) : pairs V U = pairs U V := by
  unfold pairs
  have e1 : ∀ v ∈ V, (timesV U v : Int) = S (fun u => cntB (decide (u = v))) U := fun v _ => timesV_S U v
  rw [S_congr e1]
  have e2 : ∀ u ∈ U, (timesV V u : Int) = S (fun v => cntB (decide (v = u))) V := fun u _ => timesV_S V u
  rw [S_congr e2]
  have sw : ∀ W : List VL, S (fun v => S (fun u => cntB (decide (u = v))) U) W = S (fun u => S (fun v => cntB (decide (v = u))) W) U := by
    intro W
    induction W with
    | nil => simp only [S_nil]; rw [S_const]; simp
    | cons w W ih =>
      rw [S_cons, ih, ← S_add]
      refine S_congr fun u _ => ?_
      rw [S_cons]
      congr 2
      exact decide_eq_decide.2 ⟨fun h => h.symm, fun h => h.symm⟩
  exact sw V
theorem two_le {g : VL → Int} {V : List VL} (hg : ∀ v ∈ V, 0 ≤ g v) {a b : VL} (hab : a ≠ b) (ha : a ∈ V) (hb : b ∈ V) : g a + g b ≤ S g V := by
  induction V with
  | nil => cases ha
  | cons v V ih =>
    rw [S_cons]
    have hv := hg v (by simp)
    have hV : ∀ u ∈ V, 0 ≤ g u := fun u hu => hg u (by simp [hu])
    have one : ∀ {c : VL}, c ∈ V → g c ≤ S g V := by
      intro c hc
      clear ih ha hb hg
      induction V with
      | nil => cases hc
      | cons w V ih =>
        rw [S_cons]
        have h1 := hV w (by simp)
        have h2 := S_nonneg (g := g) (V := V) fun u hu => hV u (by simp [hu])
        rcases List.mem_cons.1 hc with rfl | hc
        · omega
        · have := ih (fun u hu => hV u (by simp [hu])) hc
          omega
    rcases List.mem_cons.1 ha with ea | ha'
    · rcases List.mem_cons.1 hb with eb | hb'
      · exact absurd (ea.trans eb.symm) hab
      · have := one hb'
        rw [ea]
        omega
    · rcases List.mem_cons.1 hb with eb | hb'
      · have := one ha'
        rw [eb]
        omega
      · have := ih hV ha' hb'
        omega
theorem nodup_sub : ∀ {A B : List VL}, A.Nodup → A ⊆ B → A.length ≤ B.length
  | [], _, _, _ => by simp
  | a :: A, B, h, hs => by
    obtain ⟨h1, h2⟩ := List.nodup_cons.1 h
    have ha : a ∈ B := hs (by simp)
    have := nodup_sub (B := B.erase a) h2 fun u hu => by
      have : u ≠ a := fun e => h1 (e ▸ hu)
      exact (List.mem_erase_of_ne this).2 (hs (by simp [hu]))
    rw [List.length_erase_of_mem ha] at this
    have := List.length_pos_of_mem ha
    simp only [List.length_cons]
    omega
/-- One value may come this often. -/
theorem times_le {V : List VL} (hV : ∀ v ∈ V, v.Right) (v : VL) (hv : v ∈ V) : timesV V v + (diffV V).length ≤ V.length + 1 := by
  obtain ⟨h1, h2⟩ := diffV_spec V hV
  have hnd := ascV_nodup h1
  have hmd := (h2 v).2 hv
  have hp : ((diffV V).erase v).length + 1 = (diffV V).length := by
    rw [List.length_erase_of_mem hmd]
    have := List.length_pos_of_mem hmd
    omega
  have hsub : (diffV V).erase v ⊆ V.filter fun u => !decide (u = v) := by
    intro u hu
    obtain ⟨a1, a2⟩ := (hnd.mem_erase_iff).1 hu
    exact List.mem_filter.2 ⟨(h2 u).1 a2, by simpa using a1⟩
  have hle : ((diffV V).erase v).length ≤ (V.filter fun u => !decide (u = v)).length := by
    exact nodup_sub (hnd.erase v) hsub
  have hsplit : ∀ W : List VL, (W.filter fun u => decide (u = v)).length + (W.filter fun u => !decide (u = v)).length = W.length := by
    intro W
    induction W with
    | nil => rfl
    | cons w W ih =>
      by_cases hw : w = v <;> simp [hw] at ih ⊢ <;> omega
  have := hsplit V
  unfold timesV
  omega
structure SideB (x : Bar) (I : List VL) : Prop where
  rt : RtB x
  right : ∀ v ∈ I, v.Right
  inb : ∀ v ∈ I, v.k = x.lo.k ∧ x.lo.cmp v ≤ 0 ∧ v.cmp x.hi ≤ 0
  rows : (I.length : Int) = x.rows
  least : x.least ≤ (diffV I).length
  lo : x.lo ∈ I
  hi : x.hi ∈ I
theorem SideB.single {x : Bar} {I : List VL} (h : SideB x I) (hs : x.lo = x.hi) : ∀ v ∈ I, v = x.lo := by
  intro v hv
  obtain ⟨_, h1, h2⟩ := h.inb v hv
  rw [← hs] at h2
  have := vl_cmp.anti v x.lo
  exact vl_cmp.eq _ _ (by omega)
theorem SideB.up {x y : Bar} {I J : List VL} (hx : SideB x I) (hy : SideB y J) : pairs I J ≤ x.rows * (y.rows - y.least + 1) := by
  have h1 : ∀ v ∈ I, (timesV J v : Int) ≤ y.rows - y.least + 1 := by
    intro v hv
    have hl := hy.least
    have hr := hy.rows
    by_cases hm : v ∈ J
    · have := times_le hy.right v hm
      omega
    · have h0 : timesV J v = 0 := by
        by_cases hc : timesV J v = 0
        · exact hc
        · exact absurd (timesV_mem hc) hm
      have := hy.rt.most
      have := hy.rt.mrows
      omega
  have := S_le h1
  rw [S_const, hx.rows] at this
  exact this
theorem ends_mem {y : Bar} {J : List VL} (hy : SideB y J) {v : VL} (h : y.ends v = true) : v ∈ J := by
  simp only [Bar.ends, Bool.or_eq_true, decide_eq_true_eq] at h
  rcases h with rfl | rfl
  · exact hy.lo
  · exact hy.hi
theorem ends_times {y : Bar} {J : List VL} (hy : SideB y J) (v : VL) : cntB (y.ends v) ≤ (timesV J v : Int) := by
  unfold cntB
  split
  · rename_i h
    have := timesV_pos (ends_mem hy h)
    omega
  · omega
theorem SideB.low1 {x y : Bar} {I J : List VL} (hx : SideB x I) (hy : SideB y J) (hs : x.lo = x.hi) : x.rows * cntB (y.ends x.lo) ≤ pairs I J := by
  have h1 : ∀ v ∈ I, cntB (y.ends x.lo) ≤ (timesV J v : Int) := fun v hv => by
    rw [hx.single hs v hv]; exact ends_times hy _
  have := S_le h1
  rw [S_const, hx.rows] at this
  exact this
theorem SideB.pair {x y : Bar} {I J : List VL} (hx : SideB x I) (hy : SideB y J) : (joinC x y).1 ≤ pairs I J ∧ pairs I J ≤ (joinC x y).2 := by
  unfold joinC
  split
  · rename_i hm
    simp only [Bool.and_eq_true, decide_eq_true_eq, Bar.meet] at hm
    obtain ⟨_, m1, m2⟩ := hm
    constructor
    · simp only [pLeast, Bar.single]
      by_cases h1 : x.lo = x.hi
      · by_cases h2 : y.lo = y.hi
        · have h4 : y.lo = x.lo := by
            rw [← h2] at m1
            rw [← h1] at m2
            have := vl_cmp.anti x.lo y.lo
            exact vl_cmp.eq _ _ (by omega)
          have hJ : ∀ u ∈ J, u = x.lo := fun u hu => by rw [hy.single h2 u hu, h4]
          have h5 : (timesV J x.lo : Int) = y.rows := by
            unfold timesV
            rw [List.filter_eq_self.2 fun u hu => by simpa using hJ u hu]
            exact hy.rows
          simp only [h1, h2, decide_true, Bool.and_self, if_true]
          have h6 : ∀ v ∈ I, y.rows ≤ (timesV J v : Int) := fun v hv => by rw [hx.single h1 v hv, h5]; exact Int.le_refl _
          have := S_le h6
          rw [S_const, hx.rows] at this
          exact this
        · simp only [h1, h2, decide_true, decide_false, Bool.and_false, Bool.false_eq_true, if_false, if_true]
          rw [← h1]
          exact hx.low1 hy h1
      · by_cases h2 : y.lo = y.hi
        · simp only [h1, h2, decide_true, decide_false, Bool.false_and, Bool.false_eq_true, if_false, if_true]
          rw [← h2, pairs_symm]
          exact hy.low1 hx h2
        · simp only [h1, h2, decide_false, Bool.false_and, Bool.false_eq_true, if_false]
          have := two_le (g := fun v => (timesV J v : Int)) (V := I) (fun v _ => by omega) h1 hx.lo hx.hi
          have e1 := ends_times hy x.lo
          have e2 := ends_times hy x.hi
          unfold pairs
          omega
    · simp only [pMost]
      have e1 := hx.up hy
      have e2 := hy.up hx
      rw [pairs_symm] at e2
      omega
  · rename_i hm
    have h0 : ∀ v ∈ I, (timesV J v : Int) = 0 := by
      intro v hv
      by_cases hc : timesV J v = 0
      · omega
      · exfalso
        have hj := timesV_mem hc
        obtain ⟨a1, a2, a3⟩ := hx.inb v hv
        obtain ⟨b1, b2, b3⟩ := hy.inb v hj
        apply hm
        simp only [Bool.and_eq_true, decide_eq_true_eq, Bar.meet]
        exact ⟨by omega, vl_cmp.trans _ _ _ a2 b3, vl_cmp.trans _ _ _ b2 a3⟩
    have : pairs I J = 0 := by
      unfold pairs
      rw [S_congr h0, S_const]; simp
    simp only
    omega
theorem Desc.side {h : Hist} {V : List VL} {n : Nat} (hd : Desc h V n) (hV : ∀ v ∈ V, v.Right) {x : Bar} (hx : x ∈ h.bars) : SideB x (V.filter (inB x)) := by
  have hk := hok ((chk_eq h).trans hd.chk)
  have hb := hd.bars x hx
  have hr := hk.rt hx
  have hin : ∀ v ∈ V.filter (inB x), v.Right ∧ inB x v = true := fun v hv => ⟨hV v (List.mem_filter.1 hv).1, (List.mem_filter.1 hv).2⟩
  refine ⟨hr, fun v hv => (hin v hv).1, fun v hv => inB_facts hr (hin v hv).1 (hin v hv).2, hb.rows, hb.least, ?_, ?_⟩
  · refine List.mem_filter.2 ⟨timesV_mem hb.lo, ?_⟩
    rw [inB_cmp ⟨hr.lo, hr.hi⟩ hr.lo rfl]
    have := vl_cmp.self x.lo
    have := hr.le
    simp only [Bool.and_eq_true, decide_eq_true_eq]
    omega
  · refine List.mem_filter.2 ⟨timesV_mem hb.hi, ?_⟩
    rw [inB_cmp ⟨hr.lo, hr.hi⟩ hr.hi hr.kind.symm]
    have := vl_cmp.self x.hi
    have := hr.le
    simp only [Bool.and_eq_true, decide_eq_true_eq]
    omega
theorem joinRow_SB (f : Bar → Bar → Int × Int) (x : Bar) : ∀ (l : List Bar) (p : Int × Int), joinRow f x l p = (p.1 + SB (fun y => (f x y).1) l, p.2 + SB (fun y => (f x y).2) l)
  | [], p => by simp [joinRow, SB]
  | y :: l, p => by
    have : joinRow f x (y :: l) p = joinRow f x l (addQ p (f x y)) := rfl
    rw [this, joinRow_SB f x l, SB_cons, SB_cons]
    simp only [addQ, Prod.mk.injEq]
    omega
theorem joinAll_SB (f : Bar → Bar → Int × Int) (k l : List Bar) : joinAll f k l = (SB (fun x => SB (fun y => (f x y).1) l) k, SB (fun x => SB (fun y => (f x y).2) l) k) := by
  have : ∀ (k : List Bar) (p : Int × Int), k.foldl (fun p x => joinRow f x l p) p = (p.1 + SB (fun x => SB (fun y => (f x y).1) l) k, p.2 + SB (fun x => SB (fun y => (f x y).2) l) k) := by
    intro k
    induction k with
    | nil => intro p; simp [SB]
    | cons x k ih =>
      intro p
      rw [List.foldl_cons, ih, joinRow_SB, SB_cons, SB_cons]
      simp only [Prod.mk.injEq]
      omega
  unfold joinAll
  rw [this]
  simp
theorem pairs_split {bs : List Bar} {U : List VL} (h : Cover bs U) (V : List VL) : pairs V U = SB (fun y => pairs V (U.filter (inB y))) bs := by
  rw [pairs_symm]
  unfold pairs
  rw [h.split]
  exact SB_congr fun y _ => pairs_symm _ _
theorem join_holds {a b : Hist} {V U : List VL} {n m : Nat} (ha : Desc a V n) (hb : Desc b U m) (hV : ∀ v ∈ V, v.Right) (hU : ∀ v ∈ U, v.Right) : (joinAll joinC a.bars b.bars).1 ≤ pairs V U ∧ pairs V U ≤ (joinAll joinC a.bars b.bars).2 := by
  have e : pairs V U = SB (fun x => SB (fun y => pairs (V.filter (inB x)) (U.filter (inB y))) b.bars) a.bars := by
    have h1 : pairs V U = SB (fun x => pairs (V.filter (inB x)) U) a.bars := (ha.cover hV).split _
    rw [h1]
    exact SB_congr fun x _ => pairs_split (hb.cover hU) _
  rw [e, joinAll_SB]
  constructor
  · exact SB_le fun x hx => SB_le fun y hy => ((ha.side hV hx).pair (hb.side hU hy)).1
  · exact SB_le fun x hx => SB_le fun y hy => ((ha.side hV hx).pair (hb.side hU hy)).2
theorem ends_symm {a b c d : VL} (h1 : a ≠ b) (h2 : c ≠ d) : cntB (decide (c = a) || decide (d = a)) + cntB (decide (c = b) || decide (d = b)) = cntB (decide (a = c) || decide (b = c)) + cntB (decide (a = d) || decide (b = d)) := by
  have e : ∀ u v w : VL, v ≠ w → cntB (decide (v = u) || decide (w = u)) = cntB (decide (v = u)) + cntB (decide (w = u)) := fun u v w hvw => by
    by_cases p : v = u <;> by_cases q : w = u
    · exact absurd (p.trans q.symm) hvw
    · simp [cntB, p, q]
    · simp [cntB, p, q]
    · simp [cntB, p, q]
  rw [e a c d h2, e b c d h2, e c a b h1, e d a b h1]
  have sw : ∀ u v : VL, cntB (decide (u = v)) = cntB (decide (v = u)) := fun u v => by rw [decide_eq_decide.2 (eq_comm (a := u) (b := v))]
  rw [sw c a, sw d a, sw c b, sw d b]
  omega
theorem pLeast_symm {x y : Bar} : pLeast x y = pLeast y x := by
  unfold pLeast Bar.single
  by_cases h1 : x.lo = x.hi <;> by_cases h2 : y.lo = y.hi
  · simp [h1, h2, Int.mul_comm]
  · simp [h1, h2]
  · simp [h1, h2]
  · simp only [h1, h2, decide_false, Bool.false_and, Bool.false_eq_true, if_false]
    exact ends_symm h1 h2
theorem joinC_symm {x y : Bar} : joinC x y = joinC y x := by
  have e1 : (decide (x.lo.k = y.lo.k) && x.meet y) = (decide (y.lo.k = x.lo.k) && y.meet x) := by
    unfold Bar.meet
    rw [decide_eq_decide.2 (eq_comm (a := x.lo.k) (b := y.lo.k)), Bool.and_comm (decide (x.lo.cmp y.hi ≤ 0))]
  have e2 : pMost x y = pMost y x := by
    unfold pMost
    rw [Int.min_comm]
  unfold joinC
  rw [e1, e2, pLeast_symm]
theorem joinAll_symm (a b : List Bar) : joinAll joinC a b = joinAll joinC b a := by
  rw [joinAll_SB, joinAll_SB, SB_swap, SB_swap (fun x y => (joinC x y).2)]
  rw [Prod.mk.injEq]
  constructor
  · exact SB_congr fun x _ => SB_congr fun y _ => by rw [joinC_symm]
  · exact SB_congr fun x _ => SB_congr fun y _ => by rw [joinC_symm]
end Go.Proofs.Try

namespace Go.Proofs.Try
set_option linter.unusedVariables false
set_option linter.unusedSimpArgs false

/-! ### how many different values -/
def nd (l : List VL) : Nat := (diffV l).length
theorem nd_le {A B : List VL} (hA : ∀ v ∈ A, v.Right) (hB : ∀ v ∈ B, v.Right) (h : A ⊆ B) : nd A ≤ nd B := by
  obtain ⟨a1, a2⟩ := diffV_spec A hA
  obtain ⟨b1, b2⟩ := diffV_spec B hB
  exact nodup_sub (ascV_nodup a1) fun u hu => (b2 u).2 (h ((a2 u).1 hu))
theorem nd_app {A B : List VL} (hA : ∀ v ∈ A, v.Right) (hB : ∀ v ∈ B, v.Right) : nd (A ++ B) ≤ nd A + nd B := by
  obtain ⟨a1, a2⟩ := diffV_spec A hA
  obtain ⟨b1, b2⟩ := diffV_spec B hB
  obtain ⟨c1, c2⟩ := diffV_spec (A ++ B) fun v hv => (List.mem_append.1 hv).elim (hA v) (hB v)
  have := nodup_sub (B := diffV A ++ diffV B) (ascV_nodup c1) fun u hu => by
    have := (c2 u).1 hu
    simp only [List.mem_append] at this ⊢
    rw [a2, b2]; exact this
  rw [List.length_append] at this
  exact this
theorem nd_disj {A B : List VL} (hA : ∀ v ∈ A, v.Right) (hB : ∀ v ∈ B, v.Right) (h : ∀ v ∈ A, v ∉ B) : nd A + nd B ≤ nd (A ++ B) := by
  obtain ⟨a1, a2⟩ := diffV_spec A hA
  obtain ⟨b1, b2⟩ := diffV_spec B hB
  obtain ⟨c1, c2⟩ := diffV_spec (A ++ B) fun v hv => (List.mem_append.1 hv).elim (hA v) (hB v)
  have hn : (diffV A ++ diffV B).Nodup := List.nodup_append.2 ⟨ascV_nodup a1, ascV_nodup b1, fun u hu w hw e => by
    subst e
    exact h u ((a2 u).1 hu) ((b2 u).1 hw)⟩
  have := nodup_sub (B := diffV (A ++ B)) hn fun u hu => by
    rw [c2]
    simp only [List.mem_append] at hu ⊢
    rw [a2, b2] at hu; exact hu
  rw [List.length_append] at this
  exact this
theorem nd_len (A : List VL) : nd A ≤ A.length := by
  have := diffV_le A []
  simpa [nd, diffV] using this
theorem nd_pos {A : List VL} (hA : ∀ v ∈ A, v.Right) {v : VL} (hv : v ∈ A) : 1 ≤ nd A :=
  List.length_pos_of_mem (((diffV_spec A hA).2 v).2 hv)
theorem nd_two {A : List VL} (hA : ∀ v ∈ A, v.Right) {v u : VL} (hv : v ∈ A) (hu : u ∈ A) (h : v ≠ u) : 2 ≤ nd A := by
  obtain ⟨a1, a2⟩ := diffV_spec A hA
  exact nodup_sub (A := [v, u]) (by simpa using h) fun w hw => by
    rw [a2]
    simp only [List.mem_cons, List.not_mem_nil, or_false] at hw
    rcases hw with rfl | rfl <;> assumption
theorem nd_single {A : List VL} (hA : ∀ v ∈ A, v.Right) {v : VL} (h : ∀ u ∈ A, u = v) : nd A ≤ 1 := by
  obtain ⟨a1, a2⟩ := diffV_spec A hA
  exact nodup_sub (B := [v]) (ascV_nodup a1) fun w hw => by
    rw [h w ((a2 w).1 hw)]; simp

/-! ### parts and the values that they stand for -/
structure GP (p : Part) (A B : List VL) : Prop where
  rows : p.b.rows = A.length + B.length
  ra : ∀ v ∈ A, v.Right
  rb : ∀ v ∈ B, v.Right
  ends : ∀ v ∈ p.ends, v ∈ A ++ B
  lo : p.b.lo ∈ p.ends
  hi : p.b.hi ∈ p.ends
  btw : ∀ v ∈ A ++ B, p.b.lo.cmp v ≤ 0 ∧ v.cmp p.b.hi ≤ 0
  left : p.left ≤ nd A
  right : p.right ≤ nd B
  most : (nd (A ++ B) : Int) ≤ p.b.most
theorem GP.right' {p : Part} {A B : List VL} (h : GP p A B) : ∀ v ∈ A ++ B, v.Right := fun v hv => (List.mem_append.1 hv).elim (h.ra v) (h.rb v)
theorem min_cmp {x y : VL} (hx : x.Right) (hy : y.Right) : (if x.cmp19 y < 0 then x else y).cmp x ≤ 0 ∧ (if x.cmp19 y < 0 then x else y).cmp y ≤ 0 := by
  rw [← VL.cmp_full hx hy]
  have h1 := vl_cmp.self x
  have h2 := vl_cmp.self y
  have h3 := vl_cmp.anti x y
  split <;> omega
theorem max_cmp {x y : VL} (hx : x.Right) (hy : y.Right) : x.cmp (if 0 < x.cmp19 y then x else y) ≤ 0 ∧ y.cmp (if 0 < x.cmp19 y then x else y) ≤ 0 := by
  rw [← VL.cmp_full hx hy]
  have h1 := vl_cmp.self x
  have h2 := vl_cmp.self y
  have h3 := vl_cmp.anti x y
  split <;> omega
theorem GP.tog {p q : Part} {A B A' B' : List VL} (hp : GP p A B) (hq : GP q A' B') (dA : ∀ v ∈ A, v ∉ A') (dB : ∀ v ∈ B, v ∉ B') : GP (p.tog q) (A ++ A') (B ++ B') := by
  have ra := fun v hv => (List.mem_append.1 hv).elim (hp.ra v) (hq.ra v)
  have rb := fun v hv => (List.mem_append.1 hv).elim (hp.rb v) (hq.rb v)
  have plo := hp.right' _ (hp.ends _ hp.lo)
  have phi := hp.right' _ (hp.ends _ hp.hi)
  have qlo := hq.right' _ (hq.ends _ hq.lo)
  have qhi := hq.right' _ (hq.ends _ hq.hi)
  have mem : ∀ v, v ∈ (A ++ A') ++ (B ++ B') ↔ v ∈ A ++ B ∨ v ∈ A' ++ B' := fun v => by
    simp only [List.mem_append]
    constructor
    · rintro ((h | h) | (h | h)) <;> simp [h]
    · rintro ((h | h) | (h | h)) <;> simp [h]
  refine ⟨?_, ra, rb, ?_, ?_, ?_, ?_, ?_, ?_, ?_⟩
  · have h1 := hp.rows
    have h2 := hq.rows
    simp only [Part.tog, List.length_append]
    omega
  · intro v hv
    rw [mem]
    rcases List.mem_append.1 hv with hv | hv
    · exact .inl (hp.ends v hv)
    · exact .inr (hq.ends v hv)
  · show (if q.b.lo.cmp19 p.b.lo < 0 then q.b.lo else p.b.lo) ∈ p.ends ++ q.ends
    split
    · exact List.mem_append.2 (.inr hq.lo)
    · exact List.mem_append.2 (.inl hp.lo)
  · show (if 0 < q.b.hi.cmp19 p.b.hi then q.b.hi else p.b.hi) ∈ p.ends ++ q.ends
    split
    · exact List.mem_append.2 (.inr hq.hi)
    · exact List.mem_append.2 (.inl hp.hi)
  · intro v hv
    have m1 := min_cmp qlo plo
    have m2 := max_cmp qhi phi
    rw [mem] at hv
    rcases hv with hv | hv
    · have := hp.btw v hv
      exact ⟨vl_cmp.trans _ _ _ m1.2 this.1, vl_cmp.trans _ _ _ this.2 m2.2⟩
    · have := hq.btw v hv
      exact ⟨vl_cmp.trans _ _ _ m1.1 this.1, vl_cmp.trans _ _ _ this.2 m2.1⟩
  · have h1 := hp.left
    have h2 := hq.left
    have h3 := nd_disj hp.ra hq.ra dA
    show p.left + q.left ≤ _
    omega
  · have h1 := hp.right
    have h2 := hq.right
    have h3 := nd_disj hp.rb hq.rb dB
    show p.right + q.right ≤ _
    omega
  · have h1 := hp.most
    have h2 := hq.most
    have h3 := nd_app hp.right' hq.right'
    have h4 : nd ((A ++ A') ++ (B ++ B')) ≤ nd ((A ++ B) ++ (A' ++ B')) := nd_le (fun v hv => by
      rcases (mem v).1 hv with h | h
      · exact hp.right' v h
      · exact hq.right' v h) (fun v hv => (List.mem_append.1 hv).elim (hp.right' v) (hq.right' v)) fun v hv => List.mem_append.2 ((mem v).1 hv)
    show _ ≤ p.b.most + q.b.most
    omega
abbrev GT := Part × List VL × List VL
structure Inv (V U : List VL) (l : List Part) (gs : List GT) : Prop where
  map : gs.map (fun g => g.1) = l
  good : ∀ g ∈ gs, GP g.1 g.2.1 g.2.2
  disj : gs.Pairwise fun g g' => (∀ v ∈ g.2.1, v ∉ g'.2.1) ∧ (∀ v ∈ g.2.2, v ∉ g'.2.2)
  a : (gs.flatMap fun g => g.2.1).Perm V
  b : (gs.flatMap fun g => g.2.2).Perm U
theorem perm_lift {α β : Type} (f : α → β) {l l' : List β} (h : l.Perm l') : ∀ gs : List α, gs.map f = l → ∃ gs', gs'.map f = l' ∧ gs.Perm gs' := by
  induction h with
  | nil => intro gs hg; exact ⟨gs, hg, .refl _⟩
  | cons x _ ih =>
    intro gs hg
    cases gs with
    | nil => cases hg
    | cons g gs =>
      simp only [List.map_cons, List.cons.injEq] at hg
      obtain ⟨gs', h1, h2⟩ := ih gs hg.2
      exact ⟨g :: gs', by simp [h1, hg.1], h2.cons g⟩
  | swap x y l =>
    intro gs hg
    match gs, hg with
    | [], hg => cases hg
    | [_], hg => simp at hg
    | g1 :: g2 :: gs, hg =>
      simp only [List.map_cons, List.cons.injEq] at hg
      exact ⟨g2 :: g1 :: gs, by simp [hg], .swap g2 g1 gs⟩
  | trans _ _ ih1 ih2 =>
    intro gs hg
    obtain ⟨g1, a1, a2⟩ := ih1 gs hg
    obtain ⟨g2, b1, b2⟩ := ih2 g1 a1
    exact ⟨g2, b1, a2.trans b2⟩
theorem Inv.perm {V U : List VL} {l l' : List Part} {gs : List GT} (h : Inv V U l gs) (hp : l.Perm l') : ∃ gs', Inv V U l' gs' := by
  obtain ⟨gs', h1, h2⟩ := perm_lift _ hp gs h.map
  refine ⟨gs', h1, fun g hg => h.good g (h2.mem_iff.2 hg), ?_, ?_, ?_⟩
  · exact (h2.pairwise_iff (fun hxy => ⟨fun v hv hv' => hxy.1 v hv' hv, fun v hv hv' => hxy.2 v hv' hv⟩)).1 h.disj
  · exact (h2.symm.flatMap_right _).trans h.a
  · exact (h2.symm.flatMap_right _).trans h.b
theorem Inv.tog {V U : List VL} {p q : Part} {l : List Part} {gs : List GT} (h : Inv V U (p :: q :: l) gs) : ∃ gs', Inv V U (p.tog q :: l) gs' := by
  obtain ⟨h1, h2, h3, h4, h5⟩ := h
  match gs, h1 with
  | [], h1 => cases h1
  | [_], h1 => simp at h1
  | (p', A, B) :: (q', A', B') :: gs, h1 =>
    simp only [List.map_cons, List.cons.injEq] at h1
    obtain ⟨e1, e2, e3⟩ := h1
    subst e1 e2
    obtain ⟨d1, d2⟩ := List.pairwise_cons.1 h3
    obtain ⟨d3, d4⟩ := List.pairwise_cons.1 d2
    have d0 := d1 (q', A', B') (by simp)
    refine ⟨(p'.tog q', A ++ A', B ++ B') :: gs, by rw [List.map_cons, e3], ?_, ?_, ?_, ?_⟩
    · intro g hg
      rcases List.mem_cons.1 hg with rfl | hg
      · exact (h2 (p', A, B) (by simp)).tog (h2 (q', A', B') (by simp)) d0.1 d0.2
      · exact h2 g (by simp [hg])
    · refine List.pairwise_cons.2 ⟨fun g hg => ?_, d4⟩
      have e1 := d1 g (by simp [hg])
      have e2 := d3 g hg
      exact ⟨fun v hv => (List.mem_append.1 hv).elim (e1.1 v) (e2.1 v), fun v hv => (List.mem_append.1 hv).elim (e1.2 v) (e2.2 v)⟩
    · simpa [List.append_assoc] using h4
    · simpa [List.append_assoc] using h5
theorem inv_put {V U : List VL} {R l : List Part} {p : Part} {gs : List GT} (h : Inv V U (p :: l ++ R) gs) : ∃ gs', Inv V U (putR l p ++ R) gs' := by
  obtain ⟨A, B, e1, e2, _, _⟩ := putR_spec l p
  rw [e2]
  rw [e1] at h
  exact h.perm (List.Perm.append_right R (List.perm_middle.symm))
theorem inv_add {V U : List VL} {R : List Part} : ∀ (n : Nat) (l : List Part) (p : Part) (gs : List GT), l.length = n → Inv V U (p :: l ++ R) gs → ∃ gs', Inv V U (addR n l p ++ R) gs'
  | 0, l, p, gs, hn, h => by
    rw [addR]; exact inv_put h
  | n + 1, l, p, gs, hn, h => by
    rw [addR]
    cases hf : findM l p with
    | none => exact inv_put h
    | some k =>
      obtain ⟨hk, _, _⟩ := List.findIdx?_eq_some_iff_getElem.1 hf
      simp only
      have hg : l.getD k default = l[k] := by rw [List.getD_eq_getElem?_getD, List.getElem?_eq_getElem hk, Option.getD_some]
      have hp : (p :: l ++ R).Perm (p :: l.getD k default :: ((l.take k ++ l.drop (k + 1)) ++ R)) := by
        refine List.Perm.cons p ?_
        have e : l = l.take k ++ l.getD k default :: l.drop (k + 1) := by
          rw [hg, ← List.drop_eq_getElem_cons hk, List.take_append_drop]
        have : (l ++ R).Perm ((l.getD k default :: (l.take k ++ l.drop (k + 1))) ++ R) := by
          refine List.Perm.append_right R ?_
          conv => lhs; rw [e]
          exact List.perm_middle
        exact this
      obtain ⟨g1, i1⟩ := h.perm hp
      obtain ⟨g2, i2⟩ := i1.tog
      exact inv_add n (l.take k ++ l.drop (k + 1)) (p.tog (l.getD k default)) g2 (by simp; omega) i2
theorem inv_all {V U : List VL} : ∀ (ps l : List Part) (gs : List GT), Inv V U (l ++ ps) gs → ∃ gs', Inv V U (addAll l ps) gs'
  | [], l, gs, h => by rw [List.append_nil] at h; exact ⟨gs, h⟩
  | p :: ps, l, gs, h => by
    obtain ⟨g1, i1⟩ := h.perm (l' := p :: l ++ ps) List.perm_middle
    obtain ⟨g2, i2⟩ := inv_add l.length l p g1 rfl i1
    exact inv_all ps (addR l.length l p) g2 i2
end Go.Proofs.Try

namespace Go.Proofs.Try
set_option linter.unusedVariables false
set_option linter.unusedSimpArgs false

theorem count_cov (V : List VL) (a : VL) : ∀ bs : List Bar, ((bs.flatMap fun x => V.filter (inB x)).count a : Int) = SB (fun x => cntB (inB x a)) bs * V.count a
  | [] => by simp [SB]
  | x :: bs => by
    rw [List.flatMap_cons, List.count_append, SB_cons, Int.add_mul, ← count_cov V a bs, Int.natCast_add]
    congr 1
    by_cases h : inB x a = true
    · rw [List.count_filter h]
      simp [cntB, h]
    · have : (V.filter (inB x)).count a = 0 := List.count_eq_zero.2 fun hm => h (List.mem_filter.1 hm).2
      rw [this]
      simp [cntB, h]
theorem Cover.perm {bs : List Bar} {V : List VL} (h : Cover bs V) : (bs.flatMap fun x => V.filter (inB x)).Perm V := by
  refine List.perm_iff_count.2 fun a => ?_
  have h1 := count_cov V a bs
  by_cases ha : a ∈ V
  · rw [h.one a ha] at h1
    omega
  · have : V.count a = 0 := List.count_eq_zero.2 ha
    rw [this] at h1 ⊢
    simp at h1
    rw [List.count_eq_zero]
    intro hm
    obtain ⟨x, hx, hv⟩ := List.mem_flatMap.1 hm
    exact ha (List.mem_filter.1 hv).1
theorem Desc.gp {h : Hist} {V : List VL} {n : Nat} (hd : Desc h V n) (hV : ∀ v ∈ V, v.Right) {x : Bar} (hx : x ∈ h.bars) : GP (partX x) (V.filter (inB x)) [] ∧ GP (partY x) [] (V.filter (inB x)) := by
  have hs := hd.side hV hx
  have hb := hd.bars x hx
  have e0 : nd ([] : List VL) = 0 := rfl
  have hm : ∀ v ∈ [x.lo, x.hi], v ∈ V.filter (inB x) := fun v hv => by
    simp only [List.mem_cons, List.not_mem_nil, or_false] at hv
    rcases hv with rfl | rfl
    · exact hs.lo
    · exact hs.hi
  constructor
  · refine ⟨?_, hs.right, (fun v hv => by cases hv), fun v hv => ?_, by simp [partX], by simp [partX], fun v hv => ?_, hs.least, ?_, ?_⟩
    · show x.rows = _
      rw [← hs.rows]; simp
    · rw [List.append_nil]; exact hm v hv
    · rw [List.append_nil] at hv; exact (hs.inb v hv).2
    · rw [e0]; exact Int.le_refl _
    · rw [List.append_nil]; exact hb.most
  · refine ⟨?_, (fun v hv => by cases hv), hs.right, fun v hv => hm v hv, by simp [partY], by simp [partY], fun v hv => (hs.inb v hv).2, ?_, hs.least, hb.most⟩
    · show x.rows = _
      rw [← hs.rows]; simp
    · rw [e0]; exact Int.le_refl _
theorem Desc.apartV {h : Hist} {V : List VL} {n : Nat} (hd : Desc h V n) (hV : ∀ v ∈ V, v.Right) : h.bars.Pairwise fun x y => ∀ v ∈ V.filter (inB x), v ∉ V.filter (inB y) := by
  have hk := hok ((chk_eq h).trans hd.chk)
  refine hk.apart.imp_of_mem ?_
  intro x y hx hy hxy v hv hv'
  have a := ((hd.side hV hx).inb v hv).2.2
  have b := ((hd.side hV hy).inb v hv').2.1
  have h1 := vl_cmp.trans _ _ _ b a
  have h2 := vl_cmp.anti y.lo x.hi
  omega
theorem inv_start {a b : Hist} {V U : List VL} {n m : Nat} (ha : Desc a V n) (hb : Desc b U m) (hV : ∀ v ∈ V, v.Right) (hU : ∀ v ∈ U, v.Right) : ∃ gs, Inv V U (a.bars.map partX ++ b.bars.map partY) gs := by
  refine ⟨a.bars.map (fun x => (partX x, V.filter (inB x), [])) ++ b.bars.map (fun y => (partY y, [], U.filter (inB y))), ?_, ?_, ?_, ?_, ?_⟩
  · rw [List.map_append, List.map_map, List.map_map]; rfl
  · intro g hg
    rcases List.mem_append.1 hg with hg | hg
    · obtain ⟨x, hx, rfl⟩ := List.mem_map.1 hg
      exact (ha.gp hV hx).1
    · obtain ⟨x, hx, rfl⟩ := List.mem_map.1 hg
      exact (hb.gp hU hx).2
  · refine List.pairwise_append.2 ⟨List.pairwise_map.2 ((ha.apartV hV).imp fun h => ⟨h, (fun v hv => by cases hv)⟩), List.pairwise_map.2 ((hb.apartV hU).imp fun h => ⟨(fun v hv => by cases hv), h⟩), ?_⟩
    intro g hg g' hg'
    obtain ⟨x, hx, rfl⟩ := List.mem_map.1 hg
    obtain ⟨y, hy, rfl⟩ := List.mem_map.1 hg'
    exact ⟨(fun v hv hv' => by cases hv'), (fun v hv => by cases hv)⟩
  · rw [List.flatMap_append, List.flatMap_map, List.flatMap_map]
    have e : (b.bars.flatMap fun y => ([] : List VL)) = [] := by simp
    simp only [e, List.append_nil]
    exact (ha.cover hV).perm
  · rw [List.flatMap_append, List.flatMap_map, List.flatMap_map]
    have e : (a.bars.flatMap fun y => ([] : List VL)) = [] := by simp
    simp only [e, List.nil_append]
    exact (hb.cover hU).perm
theorem okFrom_of {k R : Int} : ∀ (l : List Bar) (p : Option VL) (n : Int), (∀ b ∈ l, b.rtC k = true) → l.Pairwise (fun x y => x.hi.cmp y.lo < 0) → (∀ v, p = some v → ∀ b ∈ l, v.cmp b.lo < 0) → n + sumRows l = R → okFrom (fun b => b.rtC k) VL.cmp R p n l = true
  | [], p, n, _, _, _, hs => by
    simpa [okFrom, sumRows] using hs
  | b :: l, p, n, hr, hp, hv, hs => by
    obtain ⟨h1, h2⟩ := List.pairwise_cons.1 hp
    have h3 : sumRows (b :: l) = b.rows + sumRows l := rfl
    have h4 := sumRows_ge (D := 1) l fun c hc => rtC_pos (hr c (by simp [hc]))
    rw [h3] at hs
    simp only [okFrom, Bool.and_eq_true, decide_eq_true_eq]
    refine ⟨⟨⟨hr b (by simp), by omega⟩, ?_⟩, okFrom_of l (some b.hi) (n + b.rows) (fun c hc => hr c (by simp [hc])) h2 (fun v hv => by cases hv; exact h1) (by omega)⟩
    cases p with
    | none => rfl
    | some v => simpa using hv v rfl b (by simp)
theorem flat2_perm : ∀ G : List GT, ((G.flatMap fun g => g.2.1) ++ G.flatMap fun g => g.2.2).Perm (G.flatMap fun g => g.2.1 ++ g.2.2)
  | [] => .refl _
  | x :: G => by
    simp only [List.flatMap_cons]
    have : ((x.2.1 ++ G.flatMap fun g => g.2.1) ++ (x.2.2 ++ G.flatMap fun g => g.2.2)).Perm ((x.2.1 ++ x.2.2) ++ ((G.flatMap fun g => g.2.1) ++ G.flatMap fun g => g.2.2)) := by
      simp only [List.append_assoc]
      refine List.Perm.append_left _ ?_
      rw [← List.append_assoc, ← List.append_assoc]
      exact List.Perm.append_right _ List.perm_append_comm
    exact this.trans (List.Perm.append_left _ (flat2_perm G))
/-- What is between the ends of a part are its values. -/
theorem part_vals {V U : List VL} {gs : List GT} {M : List Part} (hi : Inv V U M gs) {K : Int} (hk : ∀ v ∈ V ++ U, v.Right ∧ v.k = K) (hap : M.Pairwise fun p q => p.b.hi.cmp q.b.lo < 0) {f : Bar} {g : GT} (hg : g ∈ gs) (hlo : f.lo = g.1.b.lo) (hhi : f.hi = g.1.b.hi) :
    ((V ++ U).filter (inB f)).Perm (g.2.1 ++ g.2.2) := by
  have hmem : ∀ g ∈ gs, ∀ v ∈ g.2.1 ++ g.2.2, v ∈ V ++ U := fun g hg v hv => by
    rcases List.mem_append.1 hv with hv | hv
    · exact List.mem_append.2 (.inl (hi.a.mem_iff.1 (List.mem_flatMap.2 ⟨g, hg, hv⟩)))
    · exact List.mem_append.2 (.inr (hi.b.mem_iff.1 (List.mem_flatMap.2 ⟨g, hg, hv⟩)))
  have hgp := hi.good g hg
  have klo := hk _ (hmem g hg _ (hgp.ends _ hgp.lo))
  have khi := hk _ (hmem g hg _ (hgp.ends _ hgp.hi))
  have hin : ∀ v ∈ V ++ U, inB f v = (decide (g.1.b.lo.cmp v ≤ 0) && decide (v.cmp g.1.b.hi ≤ 0)) := fun v hv => by
    rw [inB_cmp (by rw [hlo, hhi]; exact ⟨klo.1, khi.1⟩) (hk v hv).1 (by rw [hlo, klo.2]; exact (hk v hv).2), hlo, hhi]
  have hpw : (gs.map fun g => g.1).Pairwise fun p q => p.b.hi.cmp q.b.lo < 0 := by rw [hi.map]; exact hap
  rw [List.pairwise_map] at hpw
  obtain ⟨G1, G2, rfl⟩ := List.append_of_mem hg
  have p1 : (V ++ U).Perm ((G1 ++ g :: G2).flatMap fun g => g.2.1 ++ g.2.2) := by
    exact (hi.a.symm.append hi.b.symm).trans (flat2_perm _)
  refine (p1.filter _).trans ?_
  obtain ⟨q1, q2, q3⟩ := List.pairwise_append.1 hpw
  obtain ⟨q4, q5⟩ := List.pairwise_cons.1 q2
  have none : ∀ G : List GT, (∀ x ∈ G, x ∈ G1 ++ g :: G2) → (∀ x ∈ G, x.1.b.hi.cmp g.1.b.lo < 0 ∨ g.1.b.hi.cmp x.1.b.lo < 0) → (G.flatMap fun g => g.2.1 ++ g.2.2).filter (inB f) = [] := by
    intro G hG hx
    refine List.filter_eq_nil_iff.2 fun v hv => ?_
    obtain ⟨x, hxG, hvx⟩ := List.mem_flatMap.1 hv
    rw [hin v (hmem x (hG x hxG) v hvx)]
    have hb := (hi.good x (hG x hxG)).btw v hvx
    simp only [Bool.and_eq_true, decide_eq_true_eq]
    rintro ⟨c1, c2⟩
    rcases hx x hxG with e | e
    · have h1 := vl_cmp.trans _ _ _ c1 hb.2
      have h2 := vl_cmp.anti g.1.b.lo x.1.b.hi
      omega
    · have h1 := vl_cmp.trans _ _ _ hb.1 c2
      have h2 := vl_cmp.anti x.1.b.lo g.1.b.hi
      omega
  rw [List.flatMap_append, List.flatMap_cons, List.filter_append, List.filter_append, none G1 (fun x hx => by simp [hx]) (fun x hx => .inl (q3 x hx g (by simp))), none G2 (fun x hx => by simp [hx]) (fun x hx => .inr (q4 x hx)), List.append_nil, List.nil_append,
    List.filter_eq_self.2 fun v hv => by
      rw [hin v (hmem g (by simp) v hv)]
      have := hgp.btw v hv
      simpa using this]
theorem perm_right {A B : List VL} (h : A.Perm B) (hB : ∀ v ∈ B, v.Right) : nd A = nd B := by
  have hA : ∀ v ∈ A, v.Right := fun v hv => hB v (h.mem_iff.1 hv)
  have h1 := nd_le hA hB h.subset
  have h2 := nd_le hB hA h.symm.subset
  omega
theorem fin_lo (p : Part) : p.fin.lo = p.b.lo ∧ p.fin.hi = p.b.hi ∧ p.fin.rows = p.b.rows := by
  unfold Part.fin
  split <;> exact ⟨rfl, rfl, rfl⟩
theorem GP.sizes {p : Part} {A B : List VL} (h : GP p A B) : p.fin.least ≤ nd (A ++ B) ∧ (nd (A ++ B) : Int) ≤ p.fin.most ∧ p.fin.most ≤ p.b.rows ∧ (if p.b.lo = p.b.hi then 1 else 2) ≤ p.fin.least ∧ (p.b.lo = p.b.hi → p.fin.most = 1) := by
  have h1 : nd A ≤ nd (A ++ B) := nd_le h.ra h.right' fun v hv => List.mem_append.2 (.inl hv)
  have h2 : nd B ≤ nd (A ++ B) := nd_le h.rb h.right' fun v hv => List.mem_append.2 (.inr hv)
  have h3 : nd p.ends ≤ nd (A ++ B) := nd_le (fun v hv => h.right' v (h.ends v hv)) h.right' fun v hv => h.ends v hv
  have h4 := h.left
  have h5 := h.right
  have h6 := h.most
  have h7 := nd_len (A ++ B)
  have h8 := h.rows
  have h9 := nd_pos h.right' (h.ends _ h.lo)
  rw [List.length_append] at h7
  have hnd : (diffV p.ends).length = nd p.ends := rfl
  unfold Part.fin
  by_cases he : p.b.lo = p.b.hi
  · rw [if_pos he, if_pos he]
    have h10 := nd_single h.right' (v := p.b.lo) fun u hu => by
      obtain ⟨a1, a2⟩ := h.btw u hu
      rw [← he] at a2
      have := vl_cmp.anti u p.b.lo
      exact vl_cmp.eq _ _ (by omega)
    exact ⟨by simp only; omega, by simp only; omega, by simp only; omega, Int.le_refl _, fun _ => rfl⟩
  · rw [if_neg he, if_neg he]
    have h10 := nd_two (fun v hv => h.right' v (h.ends v hv)) h.lo h.hi he
    simp only [hnd]
    refine ⟨by omega, by omega, by omega, by omega, fun e => absurd e he⟩
/-- What two described histograms are merged to describes both. -/
theorem merge_desc {a b : Hist} {V U : List VL} {n m : Nat} (ha : Desc a V n) (hb : Desc b U m) (hV : ∀ v ∈ V, v.Right) (hU : ∀ v ∈ U, v.Right) (h0 : (mergeH mergeR a b).2 = 0) : Desc (mergeH mergeR a b).1 (V ++ U) (n + m) := by
  have ka := hok ((chk_eq a).trans ha.chk)
  have kb := hok ((chk_eq b).trans hb.chk)
  have hkd : kindsDiffer a.bars b.bars ≠ true := fun h => by
    unfold mergeH at h0
    rw [if_pos h] at h0
    simp at h0
  have hrw : ¬ 16777216 < a.rows + b.rows := fun h => by
    unfold mergeH at h0
    rw [if_neg hkd, if_pos h] at h0
    simp at h0
  have hme : (mergeH mergeR a b).1 = ⟨a.rows + b.rows, a.nulls + b.nulls, mergeR a.bars b.bars⟩ := by
    unfold mergeH
    rw [if_neg hkd, if_neg hrw]
  rw [hme]
  obtain ⟨K, hK, hbk⟩ : ∃ K : Int, K ≠ 0 ∧ ∀ x ∈ a.bars ++ b.bars, x.lo.k = K := by
    cases hx : a.bars with
    | nil =>
      cases hy : b.bars with
      | nil => exact ⟨1, by omega, fun x hx => by cases hx⟩
      | cons y ys =>
        have hm : y ∈ b.bars := by rw [hy]; simp
        refine ⟨y.lo.k, (kb.rt hm).nz, fun z hz => ?_⟩
        rw [List.nil_append] at hz
        rw [kb.kind (b := z) (by rw [hy]; exact hz), kb.kind hm]
    | cons x xs =>
      have hm : x ∈ a.bars := by rw [hx]; simp
      refine ⟨x.lo.k, (ka.rt hm).nz, fun z hz => ?_⟩
      rcases List.mem_append.1 hz with hz | hz
      · rw [ka.kind (b := z) (by rw [hx]; exact hz), ka.kind hm]
      · rw [kb.kind hz]
        cases hy : b.bars with
        | nil => rw [hy] at hz; cases hz
        | cons y ys =>
          rw [hx, hy] at hkd
          simp [kindsDiffer] at hkd
          exact hkd.symm
  have inbar : ∀ {h : Hist} {W : List VL} {q : Nat}, Desc h W q → (∀ v ∈ W, v.Right) → ∀ v ∈ W, ∃ x ∈ h.bars, v.k = x.lo.k := by
    intro h W q hd hW v hv
    have hm := (hd.cover hW).perm.mem_iff.2 hv
    obtain ⟨x, hx, hvx⟩ := List.mem_flatMap.1 hm
    exact ⟨x, hx, ((hd.side hW hx).inb v hvx).1⟩
  have hk : ∀ v ∈ V ++ U, v.Right ∧ v.k = K := fun v hv => by
    rcases List.mem_append.1 hv with hv | hv
    · obtain ⟨x, hx, e⟩ := inbar ha hV v hv
      exact ⟨hV v hv, e.trans (hbk x (by simp [hx]))⟩
    · obtain ⟨x, hx, e⟩ := inbar hb hU v hv
      exact ⟨hU v hv, e.trans (hbk x (by simp [hx]))⟩
  obtain ⟨ρ, hρ⟩ := ranks vl_cmp (V ++ U)
  have hn : Num ρ (V ++ U) := ⟨hρ, fun v hv => (hk v hv).1, fun x hx y hy => by rw [(hk x hx).2, (hk y hy).2]⟩
  have sub : ∀ {W : List VL} {x : Bar} {v : VL}, v ∈ W.filter (inB x) → v ∈ W := fun h => (List.mem_filter.1 h).1
  have sx : SideOk ρ (V ++ U) a.bars := side_ok hn (fun x hx => ⟨ka.rt hx, List.mem_append.2 (.inl (sub (ha.side hV hx).lo)), List.mem_append.2 (.inl (sub (ha.side hV hx).hi))⟩) ka.apart
  have sy : SideOk ρ (V ++ U) b.bars := side_ok hn (fun x hx => ⟨kb.rt hx, List.mem_append.2 (.inr (sub (hb.side hU hx).lo)), List.mem_append.2 (.inr (sub (hb.side hU hx).hi))⟩) kb.apart
  obtain ⟨g1, g2, _⟩ := addAll_spec hn (a.bars.map partX ++ b.bars.map partY) [] (fun q hq => by cases hq) (fun q hq => by
    rcases List.mem_append.1 hq with hq | hq
    · obtain ⟨x, hx', rfl⟩ := List.mem_map.1 hq
      exact sx.px hx'
    · obtain ⟨y, hy', rfl⟩ := List.mem_map.1 hq
      exact sy.py hy') .nil
  obtain ⟨gs0, i0⟩ := inv_start ha hb hV hU
  obtain ⟨gs, hi⟩ := inv_all (a.bars.map partX ++ b.bars.map partY) [] gs0 i0
  have hmr : mergeR a.bars b.bars = (addAll [] (a.bars.map partX ++ b.bars.map partY)).map Part.fin := rfl
  rw [hmr]
  generalize addAll [] (a.bars.map partX ++ b.bars.map partY) = M at *
  have hap : M.Pairwise fun p q => p.b.hi.cmp q.b.lo < 0 := g2.imp_of_mem fun {p q} hp hq h => (hn.ord _ (g1 p hp).hi _ (g1 q hq).lo).1.2 h
  have hgs : ∀ p ∈ M, ∃ g ∈ gs, g.1 = p := fun p hp => by
    rw [← hi.map] at hp
    obtain ⟨g, hg, e⟩ := List.mem_map.1 hp
    exact ⟨g, hg, e⟩
  have hrt : ∀ f ∈ M.map Part.fin, f.rtC K = true := fun f hf => by
    obtain ⟨p, hp, rfl⟩ := List.mem_map.1 hf
    obtain ⟨g, hg, rfl⟩ := hgs p hp
    obtain ⟨z1, z2, z3, z4, z5⟩ := (hi.good g hg).sizes
    obtain ⟨l1, l2, l3⟩ := fin_lo g.1
    have gp := g1 g.1 hp
    obtain ⟨r1, k1⟩ := hk _ gp.lo
    obtain ⟨r2, k2⟩ := hk _ gp.hi
    have hle := hn.ord _ gp.lo _ gp.hi
    have hle2 := gp.le
    have hrows := gp.rows
    simp only [Bar.rtC, Bar.single, l1, l2, l3, Bool.and_eq_true, decide_eq_true_eq, Bool.not_eq_true', Bool.and_eq_false_iff, decide_eq_false_iff_not]
    refine ⟨⟨⟨⟨⟨⟨⟨⟨⟨⟨r1, r2⟩, by omega⟩, by omega⟩, k1⟩, hrows⟩, by omega⟩, z4⟩, by omega⟩, z3⟩, ?_⟩
    by_cases he : g.1.b.lo = g.1.b.hi
    · right
      have := z5 he
      omega
    · left; exact he
  have hsum : sumRows (M.map Part.fin) = (V.length : Int) + U.length := by
    have h1 := hi.a.length_eq
    have h2 := hi.b.length_eq
    rw [← h1, ← h2, ← hi.map, List.map_map]
    have hgood := hi.good
    clear h1 h2
    have : ∀ G : List GT, (∀ g ∈ G, GP g.1 g.2.1 g.2.2) → sumRows (G.map (Part.fin ∘ fun g => g.1)) = ((G.flatMap fun g => g.2.1).length : Int) + (G.flatMap fun g => g.2.2).length := by
      intro G hG
      induction G with
      | nil => rfl
      | cons g G ih =>
        have e := ih fun x hx => hG x (by simp [hx])
        have e1 := (hG g (by simp)).rows
        have e2 := (fin_lo g.1).2.2
        have e3 : sumRows ((g :: G).map (Part.fin ∘ fun g => g.1)) = g.1.fin.rows + sumRows (G.map (Part.fin ∘ fun g => g.1)) := rfl
        rw [e3, e, e2, e1, List.flatMap_cons, List.flatMap_cons, List.length_append, List.length_append]
        omega
    exact this gs hgood
  have e1 := ha.rows
  have e2 := ha.nulls
  have e3 := hb.rows
  have e4 := hb.nulls
  have e5 := ka.rows0
  have e6 := ka.nulls0
  have e7 := ka.nulls
  have e8 := kb.rows0
  have e9 := kb.nulls0
  have e10 := kb.nulls
  refine ⟨?_, by simp only; omega, by simp only [List.length_append]; omega, ?_⟩
  · rw [← chk_eq]
    simp only [Hist.chkC, Hist.ok, Bool.and_eq_true, decide_eq_true_eq]
    refine ⟨⟨⟨⟨by omega, by omega⟩, by omega⟩, by omega⟩, ?_⟩
    have hpw : (M.map Part.fin).Pairwise (fun x y => x.hi.cmp y.lo < 0) := List.pairwise_map.2 (hap.imp fun {p q} h => by rw [(fin_lo p).2.1, (fin_lo q).1]; exact h)
    have hokk := okFrom_of (k := K) (R := a.rows + b.rows) (M.map Part.fin) none (a.nulls + b.nulls) hrt hpw (fun v hv => by cases hv) (by omega)
    generalize M.map Part.fin = F at *
    cases F with
    | nil => exact hokk
    | cons f F =>
      have hk1 := (rtB (hrt f (by simp))).2
      show okFrom (fun c => c.rtC f.lo.k) VL.cmp _ none _ (f :: F) = true
      rw [hk1]
      exact hokk
  · intro f hf
    obtain ⟨p, hp, rfl⟩ := List.mem_map.1 hf
    obtain ⟨g, hg, rfl⟩ := hgs p hp
    obtain ⟨l1, l2, l3⟩ := fin_lo g.1
    obtain ⟨z1, z2, z3, z4, z5⟩ := (hi.good g hg).sizes
    have hpv := part_vals hi hk hap hg l1 l2
    have hnd := perm_right hpv (hi.good g hg).right'
    have hgp := hi.good g hg
    have inW : ∀ v ∈ g.2.1 ++ g.2.2, v ∈ V ++ U := fun v hv => (List.mem_filter.1 (hpv.mem_iff.2 hv)).1
    have hnd' : (diffV ((V ++ U).filter (inB g.1.fin))).length = nd (g.2.1 ++ g.2.2) := hnd
    refine ⟨?_, ?_, ?_, ?_, ?_⟩
    · rw [hpv.length_eq, l3, hgp.rows, List.length_append]; omega
    · rw [hnd']; exact z1
    · rw [hnd']; exact z2
    · have := timesV_pos (inW _ (hgp.ends _ hgp.lo))
      rw [l1]; omega
    · have := timesV_pos (inW _ (hgp.ends _ hgp.hi))
      rw [l2]; omega
end Go.Proofs.Try

namespace Go.Proofs.Try
open Go.Ivl
set_option linter.unusedVariables false
set_option linter.unusedSimpArgs false

/-! ### merging is commutative -/
def Part.flip (p : Part) : Part := ⟨p.b, p.right, p.left, p.ends⟩
theorem flip_default : (default : Part).flip = default := rfl
theorem getD_flip (l : List Part) (i : Nat) : (l.map Part.flip).getD i default = (l.getD i default).flip := by
  rw [List.getD_eq_getElem?_getD, List.getD_eq_getElem?_getD, List.getElem?_map]
  cases l[i]? <;> rfl
theorem putN_flip (l : List Part) (p : Part) : ∀ i, putN (l.map Part.flip) p.flip i = ((putN l p i).1.map Part.flip, (putN l p i).2)
  | 0 => rfl
  | i + 1 => by
    simp only [putN, putN_flip l p i, getD_flip]
    have e : ∀ q : Part, q.flip.b = q.b := fun _ => rfl
    simp only [e]
    split <;> simp
theorem putR_flip (l : List Part) (p : Part) : putR (l.map Part.flip) p.flip = (putR l p).map Part.flip := by
  unfold putR
  rw [putN_flip, List.length_map]
  split <;> simp
theorem findM_flip (l : List Part) (p : Part) : findM (l.map Part.flip) p.flip = findM l p := by
  unfold findM
  rw [List.findIdx?_map]
  rfl
theorem addR_flip : ∀ (n : Nat) (l : List Part) (p : Part), addR n (l.map Part.flip) p.flip = (addR n l p).map Part.flip
  | 0, l, p => by rw [addR, addR, putR_flip]
  | n + 1, l, p => by
    rw [addR, addR, findM_flip]
    cases findM l p with
    | none => exact putR_flip l p
    | some k =>
      simp only
      rw [← addR_flip n, getD_flip, List.map_append, List.map_take, List.map_drop]
      rfl
theorem addAll_flip : ∀ (ps l : List Part), addAll (l.map Part.flip) (ps.map Part.flip) = (addAll l ps).map Part.flip
  | [], l => rfl
  | p :: ps, l => by
    have e1 : addAll (l.map Part.flip) ((p :: ps).map Part.flip) = addAll (addR (l.map Part.flip).length (l.map Part.flip) p.flip) (ps.map Part.flip) := rfl
    have e2 : addAll l (p :: ps) = addAll (addR l.length l p) ps := rfl
    rw [e1, e2, List.length_map, addR_flip, addAll_flip ps]
theorem fin_flip (p : Part) : p.flip.fin = p.fin := by
  unfold Part.fin Part.flip
  simp only [Int.max_comm p.right p.left]
theorem mergeR_comm {ρ : VL → Int} {V : List VL} (h : Num ρ V) {xs ys : List Bar} (hx : SideOk ρ V xs) (hy : SideOk ρ V ys) : mergeR xs ys = mergeR ys xs := by
  have e : ys.map partX ++ xs.map partY = (ys.map partY ++ xs.map partX).map Part.flip := by
    rw [List.map_append, List.map_map, List.map_map]; rfl
  have e2 : mergeR ys xs = (addAll [] (ys.map partY ++ xs.map partX)).map Part.fin := by
    unfold mergeR
    rw [e]
    have := addAll_flip (ys.map partY ++ xs.map partX) []
    rw [List.map_nil] at this
    rw [this, List.map_map]
    exact List.map_congr_left fun p _ => fin_flip p
  rw [e2]
  have good : ∀ q ∈ xs.map partX ++ ys.map partY, GoodP ρ V q := fun q hq => by
    rcases List.mem_append.1 hq with hq | hq
    · obtain ⟨x, hx', rfl⟩ := List.mem_map.1 hq
      exact hx.px hx'
    · obtain ⟨y, hy', rfl⟩ := List.mem_map.1 hq
      exact hy.py hy'
  have hp : (xs.map partX ++ ys.map partY).Perm (ys.map partY ++ xs.map partX) := List.perm_append_comm
  obtain ⟨a1, _, a3⟩ := addAll_spec h (xs.map partX ++ ys.map partY) [] (fun q hq => by cases hq) good .nil
  obtain ⟨b1, _, b3⟩ := addAll_spec h (ys.map partY ++ xs.map partX) [] (fun q hq => by cases hq) (fun q hq => good q (hp.mem_iff.2 hq)) .nil
  refine fins_eq h a1 b1 ?_
  rw [a3, b3, List.nil_append, List.nil_append]
  exact comp_perm (ok_abs good) (hp.map _)
theorem kd_comm (xs ys : List Bar) : kindsDiffer xs ys = kindsDiffer ys xs := by
  cases xs <;> cases ys <;> simp [kindsDiffer]
  exact eq_comm
theorem merge_comm {a b : Hist} (ha : HOk a) (hb : HOk b) : mergeH mergeR a b = mergeH mergeR b a := by
  unfold mergeH
  rw [kd_comm, Int.add_comm a.rows, Int.add_comm a.nulls]
  split
  · rfl
  split
  · rfl
  rename_i hk _
  have he : mergeR a.bars b.bars = mergeR b.bars a.bars := by
    obtain ⟨ρ, V, hn, sx, sy⟩ := sides ha hb (by rw [kd_comm]; exact hk)
    exact mergeR_comm hn sx sy
  rw [he]
end Go.Proofs.Try

namespace Go.Proofs.Try
set_option linter.unusedVariables false
set_option linter.unusedSimpArgs false

/-! ### estimates hold -/
def RG.L (x : RG) (v : VL) : Prop := x.lo.k = 0 ∨ (v.k = x.lo.k ∧ (0 < v.cmp x.lo ∨ (v.cmp x.lo = 0 ∧ x.li = true)))
def RG.H (x : RG) (v : VL) : Prop := x.hi.k = 0 ∨ (v.k = x.hi.k ∧ (v.cmp x.hi < 0 ∨ (v.cmp x.hi = 0 ∧ x.ri = true)))
def RG.plain (x : RG) : Prop := x.e = false ∧ x.all = false ∧ x.nl = false
theorem has_iff {x : RG} (hx : x.plain) {v : VL} (hv : v.k ≠ 0) : x.has v = true ↔ x.L v ∧ x.H v := by
  obtain ⟨h1, h2, h3⟩ := hx
  simp only [RG.has, h1, h2, h3, Bool.or_self, Bool.false_eq_true, if_false, false_or, if_neg hv, RG.L, RG.H]
  generalize v.cmp x.lo = p
  generalize v.cmp x.hi = q
  cases x.li <;> cases x.ri <;> (repeat' split) <;> simp at * <;> omega
theorem apart_iff {x : RG} {b : Bar} (hb : RtB b) : ¬ b.apart x = true ↔ x.L b.hi ∧ x.H b.lo := by
  have := hb.kind
  simp only [Bar.apart, RG.L, RG.H]
  generalize b.hi.cmp x.lo = p
  generalize b.lo.cmp x.hi = q
  cases x.li <;> cases x.ri <;> simp <;> omega
theorem L_up {x : RG} {u v : VL} (h : x.L u) (hk : v.k = u.k) (hle : u.cmp v ≤ 0) : x.L v := by
  rcases h with h | ⟨h1, h2⟩
  · exact .inl h
  · refine .inr ⟨by omega, ?_⟩
    have a1 := vl_cmp.anti x.lo v
    have a2 := vl_cmp.anti x.lo u
    rcases h2 with h2 | ⟨h2, h3⟩
    · left
      have := vl_cmp.lt_trans (a := x.lo) (b := u) (c := v) (by omega) hle
      omega
    · have := vl_cmp.trans x.lo u v (by omega) hle
      by_cases h0 : v.cmp x.lo = 0
      · exact .inr ⟨h0, h3⟩
      · left; omega
theorem H_down {x : RG} {u v : VL} (h : x.H u) (hk : v.k = u.k) (hle : v.cmp u ≤ 0) : x.H v := by
  rcases h with h | ⟨h1, h2⟩
  · exact .inl h
  · refine .inr ⟨by omega, ?_⟩
    rcases h2 with h2 | ⟨h2, h3⟩
    · left
      by_cases h0 : v.cmp u = 0
      · rw [vl_cmp.eq _ _ h0]; exact h2
      · exact vl_cmp.lt_trans (b := u) (by omega) (by omega)
    · have := vl_cmp.trans v u x.hi hle (by omega)
      by_cases h0 : v.cmp x.hi = 0
      · exact .inr ⟨h0, h3⟩
      · left; omega
theorem onev_le {g : VL → Int} {V : List VL} (hg : ∀ v ∈ V, 0 ≤ g v) {a : VL} (ha : a ∈ V) : g a ≤ S g V := by
  induction V with
  | nil => cases ha
  | cons v V ih =>
    rw [S_cons]
    have h1 := hg v (by simp)
    have h2 := S_nonneg (g := g) (V := V) fun u hu => hg u (by simp [hu])
    rcases List.mem_cons.1 ha with rfl | ha
    · omega
    · have := ih (fun u hu => hg u (by simp [hu])) ha
      omega
theorem cnt_split (p : VL → Bool) (I : List VL) : S (fun v => cntB (p v)) I + S (fun v => cntB (!p v)) I = I.length := by
  rw [← S_add, ← S_one]
  exact S_congr fun v _ => by cases p v <;> simp [cntB]
theorem cntB_nn (b : Bool) : 0 ≤ cntB b := by cases b <;> simp [cntB]
theorem within_holds {x : RG} (hx : x.plain) {b : Bar} {I : List VL} (hs : SideB b I) : (b.within x).1 ≤ S (fun v => cntB (x.has v)) I ∧ S (fun v => cntB (x.has v)) I ≤ (b.within x).2 := by
  have hb := hs.rt
  have hkn : ∀ v ∈ I, v.k ≠ 0 := fun v hv => by
    have h1 := (hs.inb v hv).1
    have h2 := hb.nz
    omega
  have hlo := has_iff hx (hkn _ hs.lo)
  have hhi := has_iff hx (hkn _ hs.hi)
  have hsp := cnt_split x.has I
  rw [hs.rows] at hsp
  have nn : ∀ v ∈ I, 0 ≤ cntB (x.has v) := fun v _ => cntB_nn _
  have nn' : ∀ v ∈ I, 0 ≤ cntB (!x.has v) := fun v _ => cntB_nn _
  have n0 := S_nonneg nn
  have n1 := S_nonneg nn'
  unfold Bar.within
  by_cases c1 : (x.has b.lo && x.has b.hi) = true
  · rw [if_pos c1]
    rw [Bool.and_eq_true, hlo, hhi] at c1
    have : S (fun v => cntB (x.has v)) I = b.rows := by
      rw [← hs.rows, ← S_one]
      refine S_congr fun v hv => ?_
      obtain ⟨k1, k2, k3⟩ := hs.inb v hv
      have := (has_iff hx (hkn v hv)).2 ⟨L_up c1.1.1 k1 k2, H_down c1.2.2 (by rw [k1]; exact hb.kind) k3⟩
      rw [this]; rfl
    simp only
    omega
  rw [if_neg c1]
  by_cases c2 : b.apart x = true
  · rw [if_pos c2]
    have : S (fun v => cntB (x.has v)) I = 0 := by
      have e : ∀ v ∈ I, cntB (x.has v) = 0 := fun v hv => by
        by_cases hv' : x.has v = true
        · exfalso
          obtain ⟨k1, k2, k3⟩ := hs.inb v hv
          obtain ⟨m1, m2⟩ := (has_iff hx (hkn v hv)).1 hv'
          have := (apart_iff (x := x) hb).2 ⟨L_up m1 (by rw [k1]; exact hb.kind.symm) k3, H_down m2 k1.symm k2⟩
          exact this c2
        · simp [cntB, hv']
      rw [S_congr e, S_const]; simp
    simp only
    omega
  rw [if_neg c2]
  obtain ⟨m1, m2⟩ := (apart_iff hb).1 c2
  have one : b.lo ≠ b.hi := fun e => by
    apply c1
    rw [Bool.and_eq_true, hlo, hhi]
    rw [e] at m2
    rw [e]
    exact ⟨⟨m1, m2⟩, m1, m2⟩
  by_cases c3 : x.lo = x.hi ∧ x.lo.k ≠ 0
  · rw [if_pos c3]
    obtain ⟨c3, c4⟩ := c3
    have only : ∀ v ∈ I, x.has v = true → v = x.lo := fun v hv h => by
      obtain ⟨p1, p2⟩ := (has_iff hx (hkn v hv)).1 h
      have q1 := p1.resolve_left c4
      have q2 := p2.resolve_left (by rw [← c3]; exact c4)
      rw [← c3] at q2
      exact vl_cmp.eq _ _ (by omega)
    have hle : S (fun v => cntB (x.has v)) I ≤ (timesV I x.lo : Int) := by
      rw [timesV_S]
      refine S_le fun v hv => ?_
      by_cases h : x.has v = true
      · rw [only v hv h, decide_eq_true rfl]; unfold cntB; split <;> simp
      · have := cntB_nn (decide (v = x.lo))
        simp only [cntB, h] at this ⊢
        simpa using this
    have htl : x.lo ∈ I → (timesV I x.lo : Int) ≤ b.rows - b.least + 1 := fun h => by
      have h1 := times_le hs.right x.lo h
      have h2 := hs.least
      have h3 := hs.rows
      omega
    by_cases c5 : (x.has b.lo || x.has b.hi) = true
    · rw [if_pos c5]
      have hm : x.lo ∈ I ∧ 1 ≤ S (fun v => cntB (x.has v)) I := by
        rcases Bool.or_eq_true_iff.1 c5 with h | h
        · refine ⟨only _ hs.lo h ▸ hs.lo, ?_⟩
          have := onev_le nn hs.lo
          rw [h] at this; exact this
        · refine ⟨only _ hs.hi h ▸ hs.hi, ?_⟩
          have := onev_le nn hs.hi
          rw [h] at this; exact this
      have := htl hm.1
      simp only
      omega
    · rw [if_neg c5]
      simp only [Bool.or_eq_true, not_or, Bool.not_eq_true] at c5
      have h2 := two_le nn' one hs.lo hs.hi
      rw [c5.1, c5.2] at h2
      simp only [Bool.not_false, cntB, if_true] at h2
      have e1 : S (fun v => if (!x.has v) = true then (1 : Int) else 0) I = S (fun v => cntB (!x.has v)) I := rfl
      rw [e1] at h2
      by_cases hm : x.lo ∈ I
      · have := htl hm
        simp only
        omega
      · have h0 : S (fun v => cntB (x.has v)) I = 0 := by
          have e : ∀ v ∈ I, cntB (x.has v) = 0 := fun v hv => by
            by_cases h : x.has v = true
            · exact absurd (only v hv h ▸ hv) hm
            · simp [cntB, h]
          rw [S_congr e, S_const]; simp
        simp only
        omega
  · rw [if_neg c3]
    have ol := onev_le nn hs.lo
    have oh := onev_le nn hs.hi
    have ol' := onev_le nn' hs.lo
    have oh' := onev_le nn' hs.hi
    have h2 := two_le nn' one hs.lo hs.hi
    simp only at ol oh ol' oh' h2 ⊢
    generalize S (fun v => cntB (x.has v)) I = s at *
    generalize S (fun v => cntB (!x.has v)) I = t at *
    revert ol oh ol' oh' h2 c1
    cases x.has b.lo <;> cases x.has b.hi <;> simp [cntB] <;> omega
theorem single_has {x : RG} (hx : x.plain) {b : Bar} (hb : RtB b) (he : b.lo = b.hi) : (b.within x).1 = (b.within x).2 := by
  have hlo := has_iff hx hb.nz
  unfold Bar.within
  by_cases c1 : (x.has b.lo && x.has b.hi) = true
  · rw [if_pos c1]
  rw [if_neg c1]
  by_cases c2 : b.apart x = true
  · rw [if_pos c2]
  exfalso
  obtain ⟨m1, m2⟩ := (apart_iff hb).1 c2
  apply c1
  rw [← he] at m1 ⊢
  rw [Bool.and_self, hlo]
  exact ⟨m1, m2⟩
theorem estS_SB (f : Bar → Int × Int) (l : List Bar) : estS f l = (SB (fun b => (f b).1) l, SB (fun b => (f b).2) l) := by
  have : ∀ (l : List Bar) (p : Int × Int), l.foldl (fun p b => addP p (f b)) p = (p.1 + SB (fun b => (f b).1) l, p.2 + SB (fun b => (f b).2) l) := by
    intro l
    induction l with
    | nil => intro p; simp [SB]
    | cons b l ih =>
      intro p
      rw [List.foldl_cons, ih, SB_cons, SB_cons]
      simp only [addP, Prod.mk.injEq]
      omega
  unfold estS
  rw [this]
  simp
theorem rt_flags {x : RG} (h : x.rt = true) : (x.e = true → x.all = false) ∧ (x.e = false → x.all = true → x.nl = false) := by
  obtain ⟨e, nl, all, lo, hi, li, ri⟩ := x
  unfold RG.rt at h
  simp only at h ⊢
  cases e <;> cases all <;> cases nl <;> simp at h ⊢
/-- The rows whose value of a column is in a range. -/
def inN (x : RG) (C : List VL) : Int := S (fun v => cntB (x.has v)) C
theorem est_holds {h : Hist} {C : List VL} (hd : Desc h (C.filter fun v => !decide (v.k = 0)) C.length) (hV : ∀ v ∈ C.filter (fun v => !decide (v.k = 0)), v.Right) {x : RG} (hx : x.rt = true) : (h.est x).1 ≤ inN x C ∧ inN x C ≤ (h.est x).2 := by
  unfold Hist.est inN
  obtain ⟨f1, f2⟩ := rt_flags hx
  by_cases c1 : x.e = true
  · rw [if_pos c1]
    have e : ∀ v ∈ C, cntB (x.has v) = 0 := fun v _ => by simp [RG.has, c1, f1 c1, cntB]
    rw [S_congr e, S_const]
    simp
  rw [if_neg c1]
  simp only [Bool.not_eq_true] at c1
  by_cases c2 : x.all = true
  · rw [if_pos c2]
    have e : ∀ v ∈ C, cntB (x.has v) = 1 := fun v _ => by simp [RG.has, c2, cntB]
    rw [S_congr e, S_one, hd.rows]
    simp
  rw [if_neg c2]
  simp only [Bool.not_eq_true] at c2
  have hsp : S (fun v => cntB (decide (v.k = 0))) C + (C.filter fun v => !decide (v.k = 0)).length = C.length := by
    have := cnt_split (fun v => decide (v.k = 0)) C
    rw [← S_one, S_filter]
    rw [← this]
    rfl
  by_cases c3 : x.nl = true
  · rw [if_pos c3]
    have e : ∀ v ∈ C, cntB (x.has v) = cntB (decide (v.k = 0)) := fun v _ => by simp [RG.has, c1, c2, c3]
    rw [S_congr e, hd.nulls]
    simp only
    omega
  rw [if_neg c3]
  simp only [Bool.not_eq_true] at c3
  have hp : x.plain := ⟨c1, c2, c3⟩
  have e : S (fun v => cntB (x.has v)) C = S (fun v => cntB (x.has v)) (C.filter fun v => !decide (v.k = 0)) := by
    rw [S_filter]
    refine S_congr fun v _ => ?_
    by_cases hv : v.k = 0
    · simp [RG.has, c1, c2, c3, hv, cntB]
    · simp [hv]
  rw [e, (hd.cover hV).split, estS_SB]
  exact ⟨SB_le fun b hb => (within_holds hp (hd.side hV hb)).1, SB_le fun b hb => (within_holds hp (hd.side hV hb)).2⟩
theorem est_exact {h : Hist} {V : List VL} {n : Nat} (hd : Desc h V n) (he : ∀ b ∈ h.bars, b.lo = b.hi) (x : RG) : (h.est x).1 = (h.est x).2 := by
  unfold Hist.est
  by_cases c1 : x.e = true
  · rw [if_pos c1]
  rw [if_neg c1]
  by_cases c2 : x.all = true
  · rw [if_pos c2]
  rw [if_neg c2]
  by_cases c3 : x.nl = true
  · rw [if_pos c3]
  rw [if_neg c3]
  simp only [Bool.not_eq_true] at c1 c2 c3
  rw [estS_SB]
  exact SB_congr fun b hb => single_has ⟨c1, c2, c3⟩ ((hok ((chk_eq h).trans hd.chk)).rt hb) (he b hb)
theorem sums_SB (l : List Bar) : leastSum l = SB (fun b => b.least) l ∧ mostSum l = SB (fun b => b.most) l := by
  have h1 : ∀ (l : List Bar) (n : Int), l.foldl (fun n b => n + b.least) n = n + SB (fun b => b.least) l := by
    intro l
    induction l with
    | nil => intro n; simp [SB]
    | cons b l ih => intro n; rw [List.foldl_cons, ih, SB_cons]; omega
  have h2 : ∀ (l : List Bar) (n : Int), l.foldl (fun n b => n + b.most) n = n + SB (fun b => b.most) l := by
    intro l
    induction l with
    | nil => intro n; simp [SB]
    | cons b l ih => intro n; rw [List.foldl_cons, ih, SB_cons]; omega
  unfold leastSum mostSum
  rw [h1, h2]
  omega
theorem dist_holds {h : Hist} {V : List VL} {n : Nat} (hd : Desc h V n) (hV : ∀ v ∈ V, v.Right) : leastSum h.bars ≤ (diffV V).length ∧ ((diffV V).length : Int) ≤ mostSum h.bars := by
  obtain ⟨a1, a2⟩ := diffV_spec V hV
  have hc : Cover h.bars (diffV V) := ⟨fun v hv => (hd.cover hV).one v ((a2 v).1 hv)⟩
  have e : ((diffV V).length : Int) = SB (fun b => ((diffV (V.filter (inB b))).length : Int)) h.bars := by
    rw [← S_one, hc.split]
    refine SB_congr fun b hb => ?_
    rw [S_one]
    obtain ⟨b1, b2⟩ := diffV_spec (V.filter (inB b)) fun v hv => hV v (List.mem_filter.1 hv).1
    have m : ∀ v, v ∈ (diffV V).filter (inB b) ↔ v ∈ diffV (V.filter (inB b)) := fun v => by
      rw [List.mem_filter, a2, b2, List.mem_filter]
    have l1 := nodup_sub ((ascV_nodup a1).sublist (List.filter_sublist (p := inB b))) fun v hv => (m v).1 hv
    have l2 := nodup_sub (ascV_nodup b1) fun v hv => (m v).2 hv
    omega
  obtain ⟨s1, s2⟩ := sums_SB h.bars
  rw [e, s1, s2]
  exact ⟨SB_le fun b hb => (hd.bars b hb).least, SB_le fun b hb => (hd.bars b hb).most⟩
end Go.Proofs.Try
