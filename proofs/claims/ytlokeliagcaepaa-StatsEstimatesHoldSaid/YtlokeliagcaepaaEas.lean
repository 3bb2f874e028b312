/-
  A part of the proof: see the text of the law.
-/
import Derived.Test.YtlokeliagcaepaaBase
import Derived.Lib.Bytealg
set_option linter.unusedSimpArgs false
set_option linter.unusedVariables false
namespace Go.Proofs.Try
open Go.Al
set_option maxRecDepth 100000
set_option maxHeartbeats 1000000

/-- CompareString: the one call of the row. -/
theorem callCS (a b : ByteArray) (w : World) : Calls Try.prog 76 #[.string a, .string b] w fun e w' => e = .returned (.int .i64 (Lib.compareBytes a.data.toList b.data.toList)) ∧ w' = w := by
  have hm := hm
  go_enter func76, (by kernel_rfl : f76.ntmps = 8)
  go_wp2
  rw [run_callFunc_extern func87 (by kernel_rfl) (by kernel_rfl) (by kernel_rfl) (e := Extern.BytealgCompare.compare) (by kernel_rfl), Lib.run_compareString]
  simp only [Result.andThen]
  rw [Oper.upon_value]
  go_wp2
  go_ret
  exact ⟨rfl, rfl⟩

theorem c76 (a b : ByteArray) : ACalls E.P 76 [.str a, .str b] [] (fun r H => r = .int .i64 (Lib.compareBytes a.data.toList b.data.toList) ∧ H = []) := by
  refine ⟨⟨f76, func76, by kernel_rfl, by kernel_rfl⟩, fun γ σ w vs hi hv => ?_⟩
  obtain ⟨v1, vs1, rfl, h1, h2⟩ := repVs_cons.1 hv
  obtain ⟨v2, vs2, rfl, h3, h4⟩ := repVs_cons.1 h2
  rw [repVs_nil] at h4
  simp only [RepV] at h1 h3
  subst h1 h3 h4
  refine (callCS a b w).mono ?_
  rintro e w' ⟨rfl, rfl⟩
  exact ⟨_, γ, σ, .int .i64 (Lib.compareBytes a.data.toList b.data.toList), [], rfl, Step.refl _ _ _, hi, by simp [RepV], rfl, rfl⟩
end Go.Proofs.Try
