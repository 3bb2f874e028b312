/-
 A part of the proof: see the text of the law.
-/
import Derived.Test.YtchlampphcaomaaGreatDoorEnv
set_option linter.unusedSimpArgs false
set_option linter.unusedVariables false
namespace Go.Proofs.Try
open Go.Proofs.Tryz
open Go.Al
set_option linter.unusedVariables false
set_option maxRecDepth 100000
theorem maxLen_eq:maxLen=9223372036854775807:=by simp [maxLen]
theorem ofk {E : Env} {f : FuncId} {fn : Func} {N : Nat} {rs : List ResultVar} {mc : MC} (h1 : E.P.funcs[f]? = some fn) (h2 : (fn.name == "runtime.NumGoroutine") = false := by kernel_rfl) (h3 : fn.ntmps = N := by kernel_rfl) (h4 : fn.results.toList = rs := by kernel_rfl)
 (h5:(fn.body.map (dstsBelow N))=some true:=by kernel_rfl) (h6:fn.body.bind (cC E)=some mc:=by kernel_rfl):FnOk E f N rs mc:=.of h1 h2 h3 h4 h5 h6
abbrev z0:List AV:=[.int .i64 0,.str ⟨#[]⟩,.raw (.slice none 0 0),.int .i64 0,.int .i64 0,.int .i64 0,.int .i64 0,.str ⟨#[]⟩,.raw (.slice none 0 0),.raw (.slice none 0 0),.raw (.slice none 0 0),.raw (.slice none 0 0),.raw (.slice none 0 0),.int .i64 0]
abbrev z1:List AV:=[.str ⟨#[]⟩,.raw (.slice none 0 0),.raw (.slice none 0 0),.raw (.slice none 0 0),.raw (.slice none 0 0)]
abbrev z2:List AV:=[.int .i64 0,.int .i64 0,.str ⟨#[]⟩]
abbrev z3:List AV:=[.int .i64 0,.int .i64 0,.int .i64 0,.int .i64 0,.str ⟨#[]⟩,.raw (.slice none 0 0)]
abbrev z4:List AV:=[.int .i64 0,.int .i64 0,.int .i64 0,.int .i64 0,.int .i64 0,.str ⟨#[]⟩,.raw (.slice none 0 0)]
abbrev z5:List AV:=[.str ⟨#[]⟩,.raw (.slice none 0 0),.raw (.slice none 0 0),.raw (.slice none 0 0)]
end Go.Proofs.Try

