/-
  A part of the proof: see the text of the law.
-/
import Derived.Test.YtlokeliagcaepaaEam
import Derived.Test.YtlokeliagcaepaaPab
set_option linter.unusedSimpArgs false
set_option linter.unusedVariables false
namespace Go.Proofs.Try
open Go.Al
set_option linter.unusedVariables false
set_option linter.unusedSimpArgs false
set_option maxRecDepth 20000
set_option maxHeartbeats 8000000

theorem pMost_le {x y : Bar} (hx : x.small) (hy : y.small) : -281474993487872 ≤ x.rows * (y.rows - y.least + 1) ∧ x.rows * (y.rows - y.least + 1) ≤ 281474993487872 := by
  obtain ⟨a, b, _, _⟩ := hx
  obtain ⟨c, d, e, f⟩ := hy
  exact mul_rng2 (A := 16777216) (B := 16777217) a b (by omega) (by omega)
theorem joinC_le {x y : Bar} (hx : x.small) (hy : y.small) : inM (joinC x y) := by
  have h1 := pMost_le hx hy
  have h2 := pMost_le hy hx
  obtain ⟨a, b, _, _⟩ := hx
  obtain ⟨c, d, _, _⟩ := hy
  have h3 := mul_rng a b c d
  have c1 := cntB_le (y.ends x.lo)
  have c2 := cntB_le (y.ends x.hi)
  have c3 := cntB_le (x.ends y.lo)
  have h4 := mul_rng a b c1.1 c1.2
  have h5 := mul_rng c d c3.1 c3.2
  unfold joinC pLeast pMost inM
  (repeat' split) <;> simp only <;> omega
theorem joinR_le {x y : Bar} (hx : x.small) (hy : y.small) : inM (joinR x y) := by
  have h1 := pMost_le hx hy
  have h2 := pMost_le hy hx
  obtain ⟨a, b, _, _⟩ := hx
  obtain ⟨c, d, _, _⟩ := hy
  have hd := diffV_le [x.lo, x.hi] []
  have hc := cntE_le y (diffV [x.lo, x.hi])
  rw [show [x.lo, x.hi].foldl withV [] = diffV [x.lo, x.hi] from rfl] at hd
  simp only [List.length_nil, List.length_cons] at hd
  have h3 := sharedN_le (x := x) (y := y) (n := cntE y (diffV [x.lo, x.hi])) (by omega) (by omega) a b c d
  unfold joinR pMost inM Bar.shared
  split <;> simp only <;> omega
end Go.Proofs.Try
