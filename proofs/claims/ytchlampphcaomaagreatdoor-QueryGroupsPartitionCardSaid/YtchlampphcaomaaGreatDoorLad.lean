/-
 A part of the proof: see the text of the law.
-/
import Derived.Test.YtchlampphcaomaaGreatDoorLac
set_option linter.unusedSimpArgs false
set_option linter.unusedVariables false
namespace Go.Proofs.Try
open Go.Proofs.Tryz
open Go.Al
set_option maxRecDepth 100000
set_option maxRecDepth 20000
set_option maxHeartbeats 64000000
mutual
theorem okI_cm (f:Int→Int):∀ e:EX,e.okI→(e.cm f).okI
 | .mk op n k i s args,h=>by
   rw [EX.okI] at h
   rw [EX.cm,EX.okI]
   exact ⟨h.1,okIL_cm f args h.2⟩
theorem okIL_cm (f:Int→Int):∀ l:List EX,EX.okIL l→EX.okIL (EX.cmL f l)
 | [],_=>trivial
 | e::es,h=>⟨okI_cm f e h.1,okIL_cm f es h.2⟩
end
theorem k21 (e:EX) (p q:QY):ACalls E.P 21 [.agg e.ls,.agg p.ls,.agg q.ls] [] (fun r H=>r=.agg (joinQ e p q).ls∧H=[]):=by
 have:=c21 e p q
 simp only [e_ls,q_ls] at this
 exact this
theorem k18 (tb:List TB) (hdb:∀ t ∈ tb,t.cols.length≤1000000) (q:QY) (hk:q.ok):ACalls E.P 18 [.view 4 (tb.map TB.av),.agg q.ls] [] (fun r H=>r=.tup [ksV (schema tb q).1,.int .i64 (schema tb q).2]∧H=[]):=by
 have:=c18 tb hdb q hk
 simp only [q_ls] at this
 exact this
end Go.Proofs.Try
