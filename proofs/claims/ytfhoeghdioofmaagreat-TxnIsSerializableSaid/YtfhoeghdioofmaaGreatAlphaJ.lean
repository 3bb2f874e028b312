/-
 A part of the proof.
-/
import Derived.Test.YtfhoeghdioofmaaGreatAlphaI
set_option linter.unusedSimpArgs false
set_option linter.unusedVariables false
namespace Go.Al
section
variable {γ:Gm} {σ σ':Sg} {k:Nat}
end
section
variable {m:Nat} {N:FN} {γ:Gm} {σ:Sg} {w:World} {H L:List AObj} {P:Program}
end
end Go.Al
