/-
  A part of the proof: see the text of the law.
-/
import Derived.Test.YtlokeliagcaepaaEaud
import Derived.Test.YtlokeliagcaepaaEaue
import Derived.Test.YtlokeliagcaepaaPar
set_option linter.unusedSimpArgs false
set_option linter.unusedVariables false
namespace Go.Proofs.Try
open Go.Al
set_option linter.unusedVariables false
set_option linter.unusedSimpArgs false
set_option maxRecDepth 20000
set_option maxHeartbeats 8000000
theorem bars_few {h : Hist} (hk : HOk h) : (h.bars.length : Int) ≤ h.rows := by
  have hge := sumRows_ge (D := 1) h.bars fun b hb => (hk.rt hb).rows
  have hs := hk.sum
  have h2 := hk.nulls0
  omega
/-- A right made histogram, as a law sees it. -/
theorem made_fact {l : List (List VL)} {col m : Int} (h : (madeOf l col m).2 = true) :
    Desc (madeOf l col m).1 (valuesC l col.toNat) l.length ∧ l.length ≤ 60 ∧ (∀ r ∈ l, 0 ≤ col ∧ col < (r.length : Int)) ∧ (∀ v ∈ valuesC l col.toNat, v.Right) := by
  obtain ⟨hf, he, ho⟩ := made_true h
  obtain ⟨hd, hlen, hc⟩ := hist_desc hf ho
  rw [← he] at hd
  exact ⟨hd, hf.2, hc, fun v hv => (values_right hf hc v hv).1⟩
theorem valuesC_app (l k : List (List VL)) (c : Nat) : valuesC (l ++ k) c = valuesC l c ++ valuesC k c := by
  rw [valuesC, List.map_append, List.filter_append]; rfl
structure HSz (h : Hist) (n : Nat) : Prop where
  ok : ∀ x ∈ h.bars, BarOk x
  rng : 0 ≤ h.rows ∧ h.rows ≤ 16777216 ∧ 0 ≤ h.nulls ∧ h.nulls ≤ 16777216
  few : h.bars.length ≤ n
theorem Desc.hok {h : Hist} {V : List VL} {n : Nat} (hd : Desc h V n) : HOk h := Go.Proofs.Try.hok ((chk_eq h).trans hd.chk)
theorem Desc.sz {h : Hist} {V : List VL} {n : Nat} (hd : Desc h V n) : HSz h n := by
  have hk := hd.hok
  have h1 := bars_few hk
  have h2 := hd.rows
  refine ⟨fun x hx => hk.ok hx, ⟨hk.rows0, hk.rows, hk.nulls0, ?_⟩, by omega⟩
  have := hk.nulls
  have := hk.rows
  omega
/-- Merge, at described histograms. -/
theorem c19d {a b : Hist} {V U : List VL} {n m : Nat} (ha : Desc a V n) (hb : Desc b U m) (hn : n ≤ 1024) (hm : m ≤ 1024) : ACalls E.P 19 [a.av, b.av] [] (fun r H => r = .tup [(mergeH mergeR a b).1.av, .int .i64 (mergeH mergeR a b).2] ∧ H = []) := by
  have h := c19 a b ha.sz.ok hb.sz.ok ha.sz.rng hb.sz.rng (by have := ha.sz.few; omega) (by have := hb.sz.few; omega)
  rwa [merge_law ha.hok hb.hok] at h
theorem c30d {h : Hist} {l : List (List VL)} {col : Int} (hd : Desc h (valuesC l col.toNat) l.length) (hc : ∀ r ∈ l, 0 ≤ col ∧ col < (r.length : Int)) (hl : l.length ≤ 1000) :
    ACalls E.P 30 [h.av, .view 1 (l.map rowV), .int .i64 col] [] (fun r H => r = .bool true ∧ H = []) :=
  c30 h l col hd (fun b hb => by
    have := (hd.sz.ok b hb).rows0
    have := (hd.sz.ok b hb).rows
    exact ⟨by omega, by omega⟩) hc hl
theorem sc_vls (n : Nat) : ∀ xs : List VL, scL n (xs.map VL.av) = true
  | [] => rfl
  | x :: xs => by
    rw [List.map_cons, scL, sc_vls n xs]
    simp [VL.av, sc, scL]
theorem sc_rows (n : Nat) : ∀ xs : List (List VL), scL n (xs.map rowV) = true
  | [] => rfl
  | x :: xs => by
    rw [List.map_cons, scL, sc_rows n xs]
    simp [rowV, sc, sc_vls]
end Go.Proofs.Try
