/-
 A part of the proof.
-/
import Derived.Test.YtfhoeghdioofmaaGreatKee
set_option linter.unusedSimpArgs false
set_option linter.unusedVariables false
namespace Go.Proofs.Try
open Go.Proofs.Tryz
open Go.Al
set_option maxRecDepth 100000
open Classical
def upd (f:Nat->Nat) (x v:Nat):Nat->Nat:=fun k=>if k=x then v else f k
noncomputable def cnt (h:List Acc) (out:List Nat) (k m:Nat):Nat:=((List.range m).filter fun i=>decide (Edge h i k/\i ∉ out)).length
set_option maxHeartbeats 16000000
open Classical
def Walk (h:List Acc) (s:Nat):Nat->Nat->Prop
 | 0,_=>False
 | 1,i=>s<=i/\i<h.length/\Edge h i s
 | n+2,i=>s<=i/\i<h.length/\∃ j,s<j/\j<h.length/\Edge h i j/\Walk h s (n+1) j
open Classical
def lv (q es:List Nat) (k:Nat):Nat:=if k=0 then 0 else es.getD (q.getD k 0) 0
structure Bfs (h:List Acc) (s a:Nat) (q es:List Nat):Prop where
 len:es.length=h.length
 q0:q.getD 0 0=s
 qpos:0<q.length
 nd:q.Nodup
 rg:∀ x ∈ q,s<=x/\x<h.length
 ats:a<=q.length
 nz:∀ k,1<=k->k<q.length->lv q es k≠0
 lvk:∀ k,k<q.length->lv q es k<=k
 mono:∀ k k',k<=k'->k'<q.length->lv q es k<=lv q es k'
 top:∀ i,i<h.length->a<q.length->es.getD i 0<=lv q es a+1
 walk:∀ i,i<h.length->es.getD i 0≠0->Walk h s (es.getD i 0) i/\(i≠s->i ∈ q)
 edge:∀ k,k<a->∀ i,s<=i->i<h.length->Edge h i (q.getD k 0)->es.getD i 0≠0/\es.getD i 0<=lv q es k+1
structure BfsI (h:List Acc) (s a i:Nat) (q es:List Nat):Prop extends Bfs h s a q es where
 lt:a<q.length
 row:∀ i',i'<i->s<=i'->i'<h.length->Edge h i' (q.getD a 0)->es.getD i' 0≠0/\es.getD i' 0<=lv q es a+1
section
variable {h:List Acc} {s a i:Nat} {q es:List Nat}
end
end Go.Proofs.Try
