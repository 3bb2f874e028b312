/-
 A part of the proof: see the text of the law.
-/
import Derived.Test.YtchlampphcaomaaGreatDoorPae
set_option linter.unusedSimpArgs false
set_option linter.unusedVariables false
namespace Go.Proofs.Try
open Go.Proofs.Tryz
open Go.Al
set_option maxRecDepth 20000
set_option maxHeartbeats 4000000
mutual
theorem count_cm (f:Int→Int):∀ e:EX,(e.cm f).count=e.count
 | .mk op n k i s args=>by rw [EX.cm,EX.count,EX.count,countL_cm f args]
theorem countL_cm (f:Int→Int):∀ l:List EX,EX.countL (EX.cmL f l)=EX.countL l
 | []=>rfl
 | e::es=>by rw [EX.cmL,EX.countL,EX.countL,count_cm f e,countL_cm f es]
end
theorem cmL_len (f:Int→Int):∀ l:List EX,(EX.cmL f l).length=l.length
 | []=>rfl
 | e::es=>by rw [EX.cmL,List.length_cons,List.length_cons,cmL_len f es]
mutual
theorem formed_cm (f:Int→Int):∀ e:EX,(e.cm f).formed=e.formed
 | .mk op n k i s args=>by
   rw [EX.cm,EX.formed,EX.formed,formedL_cm f args]
   congr 1
   rw [Bool.eq_iff_iff,fm_mk,fm_mk,cmL_len]
   by_cases h:op=1 <;> simp [h]
theorem formedL_cm (f:Int→Int):∀ l:List EX,EX.formedL (EX.cmL f l)=EX.formedL l
 | []=>rfl
 | e::es=>by rw [EX.cmL,EX.formedL,EX.formedL,formed_cm f e,formedL_cm f es]
end
section
variable {db:List DA} (hdb:∀ d ∈ db,d.right) {p q:QY} {on on':EX} (hp:(schema (db.map DA.t) p).2=0) (hq:(schema (db.map DA.t) q).2=0) (hj:(schema (db.map DA.t) (joinQ on p q)).2=0)
 (ho:on'=on.cm (tuI (schema (db.map DA.t) p).1.length (schema (db.map DA.t) q).1.length))
include hdb hp hq hj ho
omit hdb in
end
end Go.Proofs.Try
