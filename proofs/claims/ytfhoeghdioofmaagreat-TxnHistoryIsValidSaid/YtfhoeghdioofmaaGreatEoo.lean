/-
 A part of the proof: see the text of the law.
-/
import Derived.Test.YtfhoeghdioofmaaGreatEkk
set_option linter.unusedSimpArgs false
set_option linter.unusedVariables false
namespace Go.Proofs.Try
open Go.Proofs.Tryz
open Go.Al
set_option maxRecDepth 100000
set_option maxRecDepth 20000
set_option maxHeartbeats 8000000
set_option maxRecDepth 100000
set_option maxRecDepth 20000
structure Ver where
 row:Int
 stamp:Int
 dead:Bool
 vals:List VL
 deriving DecidableEq
instance:Inhabited Ver:=⟨⟨0,0,false,[]⟩⟩
abbrev Ver.cs (v:Ver):List AV:=[.int .i64 v.row,.int .i64 v.stamp,.bool v.dead,.view 3 (v.vals.map VL.av)]
def Ver.av (v:Ver):AV:=.agg v.cs
def diff (l:List Ver):Prop:=l.Pairwise fun a b=>¬(a.row=b.row∧a.stamp=b.stamp)
def okV (v:Ver):Prop:=1≤v.row∧v.row≤1073741824∧1≤v.stamp∧v.stamp≤1073741824∧(v.dead=true→v.vals=[])
instance (v:Ver):Decidable (okV v):=by unfold okV;infer_instance
instance (l:List Ver):Decidable (diff l):=by unfold diff;infer_instance
def goodL (l:List Ver):Prop:=(∀ v ∈ l,okV v)∧diff l
instance (l:List Ver):Decidable (goodL l):=by unfold goodL;infer_instance
set_option maxRecDepth 100000
set_option maxRecDepth 20000
theorem cl_load (c:CL):(if 6≤c.cs.length then some (AV.agg (List.take 6 c.cs)) else none)=some c.av:=by simp [CL.cs,CL.av]
def okC (c:CL):Prop:=(0≤c.kind∧c.kind≤7)∧((c.kind=1∨c.kind=2)→(0≤c.a∧c.a≤2)∧0≤c.b∧c.b≤8)
instance (c:CL):Decidable (okC c):=by unfold okC;infer_instance
end Go.Proofs.Try
