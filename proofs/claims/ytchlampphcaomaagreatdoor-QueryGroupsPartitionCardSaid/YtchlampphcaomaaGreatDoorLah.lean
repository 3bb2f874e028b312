/-
 A part of the proof: see the text of the law.
-/
import Derived.Test.YtchlampphcaomaaGreatDoorLad
set_option linter.unusedSimpArgs false
set_option linter.unusedVariables false
namespace Go.Proofs.Try
open Go.Proofs.Tryz
open Go.Al
set_option maxRecDepth 100000
set_option maxRecDepth 20000
set_option maxHeartbeats 8000000
mutual
def QY.tabs:QY→List ByteArray
 | .mk k t s _ _ _ _ _ _=>QY.tabsL s++(if k=1 then [t] else [])
def QY.tabsL:List QY→List ByteArray
 | []=>[]
 | q::l=>q.tabs++QY.tabsL l
end
end Go.Proofs.Try
