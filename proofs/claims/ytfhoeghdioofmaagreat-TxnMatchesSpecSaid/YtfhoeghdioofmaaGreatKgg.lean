/-
 A part of the proof.
-/
import Derived.Test.YtfhoeghdioofmaaGreatKff
set_option linter.unusedSimpArgs false
set_option linter.unusedVariables false
namespace Go.Al
end Go.Al
namespace Go.Proofs.Try
open Go.Al
set_option maxRecDepth 100000
open Classical
set_option maxHeartbeats 16000000
open Classical
open Classical
def Cand (h:List Acc) (x snap:Int) (i:Nat):Prop:=x ∈ (at' h i).writes/\(at' h i).writer=true/\(at' h i).stamp<=snap
noncomputable def srcTo (h:List Acc) (x snap:Int):Nat->Option Nat
 | 0=>none
 | m+1=>match srcTo h x snap m with
   | none=>if Cand h x snap m then some m else none
   | some b=>if Cand h x snap m/\(at' h b).stamp<(at' h m).stamp then some m else some b
noncomputable def srcV (h:List Acc) (x snap:Int):Option Nat:=srcTo h x snap h.length
noncomputable def lastAW (h:List Acc) (l:List Nat) (x:Int):Option Nat:=l.foldl (fun b i=>if x ∈ (at' h i).writes then some i else b) none
open Go.Proofs.Tryz
open Classical
theorem check_formed {h:List Acc} (hc:checkS h=0):∀ i,i<h.length->(at' h i).Formed:=by
 intro i hi;simp only [checkS] at hc;split at hc
 . omega
 . split at hc
   . omega
   . rename_i hb;exact Classical.byContradiction fun hn=>hb (.inl ⟨i,hi,hn⟩)
end Go.Proofs.Try
