/-
 A part of the proof.
-/
import Derived.Test.YtfhoeghdioofmaaGreatKjj
set_option linter.unusedSimpArgs false
set_option linter.unusedVariables false
namespace Go.Proofs.Try
open Go.Al
set_option maxRecDepth 100000
end Go.Proofs.Try
