/-
  A part of the proof: see the text of the law.
-/
import Derived.Test.YtmmedfdilaijhaaGreatEnv
set_option linter.unusedSimpArgs false
set_option linter.unusedVariables false
namespace Go.Proofs.Try
open Go.Proofs.Tryz
open Go.Al
set_option linter.unusedVariables false
set_option maxRecDepth 100000
theorem maxLen_eq : maxLen = 9223372036854775807 := by simp [maxLen]
end Go.Proofs.Try

