/-
 A part of the proof: see the text of the law.
-/
import Derived.Test.YtchlampphcaomaaGreatDoorLaa
import Derived.Test.YtchlampphcaomaaGreatDoorPae
set_option linter.unusedSimpArgs false
set_option linter.unusedVariables false
namespace Go.Proofs.Try
open Go.Proofs.Tryz
open Go.Al
set_option maxRecDepth 100000
set_option maxRecDepth 20000
set_option maxHeartbeats 64000000
end Go.Proofs.Try
