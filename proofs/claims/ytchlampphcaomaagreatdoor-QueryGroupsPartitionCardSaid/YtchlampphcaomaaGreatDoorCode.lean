/-
 A part of the proof: see the text of the law.
-/
import Derived.Test.YtchlampphcaomaaGreatDoorEnv
set_option linter.unusedSimpArgs false
set_option linter.unusedVariables false
namespace Go.Proofs.Try
open Go.Proofs.Tryz
open Go.Al
set_option maxRecDepth 100000
theorem maxLen_eq:maxLen=9223372036854775807:=by simp [maxLen]
theorem ofk {E : Env} {f : FuncId} {fn : Func} {N : Nat} {rs : List ResultVar} {mc : MC} (h1 : E.P.funcs[f]? = some fn) (h2 : (fn.name == "runtime.NumGoroutine") = false := by kernel_rfl) (h3 : fn.ntmps = N := by kernel_rfl) (h4 : fn.results.toList = rs := by kernel_rfl)
 (h5:(fn.body.map (dstsBelow N))=some true:=by kernel_rfl) (h6:fn.body.bind (cC E)=some mc:=by kernel_rfl):FnOk E f N rs mc:=.of h1 h2 h3 h4 h5 h6
abbrev z0:List AV:=[.int .i64 0,.str ⟨#[]⟩,.raw (.slice none 0 0),.int .i64 0,.int .i64 0,.int .i64 0,.int .i64 0,.str ⟨#[]⟩,.raw (.slice none 0 0),.raw (.slice none 0 0),.raw (.slice none 0 0),.raw (.slice none 0 0),.raw (.slice none 0 0),.int .i64 0]
abbrev z1:List AV:=[.str ⟨#[]⟩,.raw (.slice none 0 0),.raw (.slice none 0 0),.raw (.slice none 0 0),.raw (.slice none 0 0)]
abbrev z2:List AV:=[.int .i64 0,.int .i64 0,.str ⟨#[]⟩]
abbrev z3:List AV:=[.int .i64 0,.int .i64 0,.int .i64 0,.int .i64 0,.str ⟨#[]⟩,.raw (.slice none 0 0)]
abbrev z4:List AV:=[.int .i64 0,.int .i64 0,.int .i64 0,.int .i64 0,.int .i64 0,.str ⟨#[]⟩,.raw (.slice none 0 0)]
abbrev z5:List AV:=[.str ⟨#[]⟩,.raw (.slice none 0 0),.raw (.slice none 0 0),.raw (.slice none 0 0)]
abbrev oM (d s:Nat):MI:=.v (.mov d (.t s))
abbrev oI (d k:Nat):MI:=.v (.mov d (.c (.int .i64 k)))
abbrev oL (d s:Nat):MI:=.v (.load d false 1 (.t s))
abbrev oR (d n s:Nat):MI:=.v (.load d true n (.t s))
abbrev oF (d k s:Nat):MI:=.v (.fld d k (.t s))
abbrev oE (d s k:Nat):MI:=.v (.bin d .eql false (.t s) (.c (.int .i64 k)))
abbrev oD (d s k:Nat):MI:=.v (.bin d .neq false (.t s) (.c (.int .i64 k)))
abbrev oA (d s k:Nat):MI:=.v (.bin d .add false (.t s) (.c (.int .i64 k)))
abbrev oB (d a b:Nat):MI:=.v (.bin d .lss false (.t a) (.t b))
abbrev oZ (d:Nat):MI:=.v (.mov d (.c (.bool false)))
abbrev oY (d:Nat):MI:=.v (.mov d (.c (.raw (.slice none 0 0))))
abbrev oP (d a b:Nat):MI:=.v (.pick d (.t a) (.t b) (.c (.bool false)))
abbrev oO (d a b:Nat):MI:=.v (.pick d (.t a) (.c (.bool true)) (.t b))
abbrev oX (d i s:Nat):MI:=.v (.ext d i (.t s))
abbrev oN (d s:Nat):MI:=.v (.not d (.t s))
abbrev oS (n a b:Nat):MI:=.e (.store n true (.t a) (.t b))
abbrev oG (d s:Nat):MI:=.p (.len d (.t s))
abbrev oQ (d z a b:Nat):MI:=.p (.idx d z (.t a) (.t b))
abbrev oV (d f a:Nat):MI:=.e (.call (some d) f [.t a])
abbrev oW (d f a b:Nat):MI:=.e (.call (some d) f [.t a,.t b])
abbrev pM (d s:Nat):Option (Nat × Bool) × MI:=(none,.v (.mov d (.t s)))
abbrev pI (d k:Nat):Option (Nat × Bool) × MI:=(none,.v (.mov d (.c (.int .i64 k))))
abbrev pL (d s:Nat):Option (Nat × Bool) × MI:=(none,.v (.load d false 1 (.t s)))
abbrev pR (d n s:Nat):Option (Nat × Bool) × MI:=(none,.v (.load d true n (.t s)))
abbrev pF (d k s:Nat):Option (Nat × Bool) × MI:=(none,.v (.fld d k (.t s)))
abbrev pE (d s k:Nat):Option (Nat × Bool) × MI:=(none,.v (.bin d .eql false (.t s) (.c (.int .i64 k))))
abbrev pD (d s k:Nat):Option (Nat × Bool) × MI:=(none,.v (.bin d .neq false (.t s) (.c (.int .i64 k))))
abbrev pA (d s k:Nat):Option (Nat × Bool) × MI:=(none,.v (.bin d .add false (.t s) (.c (.int .i64 k))))
abbrev pB (d a b:Nat):Option (Nat × Bool) × MI:=(none,.v (.bin d .lss false (.t a) (.t b)))
abbrev pZ (d:Nat):Option (Nat × Bool) × MI:=(none,.v (.mov d (.c (.bool false))))
abbrev pY (d:Nat):Option (Nat × Bool) × MI:=(none,.v (.mov d (.c (.raw (.slice none 0 0)))))
abbrev pP (d a b:Nat):Option (Nat × Bool) × MI:=(none,.v (.pick d (.t a) (.t b) (.c (.bool false))))
abbrev pO (d a b:Nat):Option (Nat × Bool) × MI:=(none,.v (.pick d (.t a) (.c (.bool true)) (.t b)))
abbrev pX (d i s:Nat):Option (Nat × Bool) × MI:=(none,.v (.ext d i (.t s)))
abbrev pN (d s:Nat):Option (Nat × Bool) × MI:=(none,.v (.not d (.t s)))
abbrev pS (n a b:Nat):Option (Nat × Bool) × MI:=(none,.e (.store n true (.t a) (.t b)))
abbrev pK (d s:Nat):Option (Nat × Bool) × MI:=(none,.e (.box d (.t s)))
abbrev pG (d s:Nat):Option (Nat × Bool) × MI:=(none,.p (.len d (.t s)))
abbrev pQ (d z a b:Nat):Option (Nat × Bool) × MI:=(none,.p (.idx d z (.t a) (.t b)))
abbrev pV (d f a:Nat):Option (Nat × Bool) × MI:=(none,.e (.call (some d) f [.t a]))
abbrev pW (d f a b:Nat):Option (Nat × Bool) × MI:=(none,.e (.call (some d) f [.t a,.t b]))
abbrev gT (g:Nat) (i:MI):Option (Nat × Bool) × MI:=(some (g,true),i)
abbrev gF (g:Nat) (i:MI):Option (Nat × Bool) × MI:=(some (g,false),i)
end Go.Proofs.Try
