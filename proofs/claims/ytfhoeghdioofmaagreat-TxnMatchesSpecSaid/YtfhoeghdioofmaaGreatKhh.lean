/-
 A part of the proof.
-/
import Derived.Test.YtfhoeghdioofmaaGreatKgg
set_option linter.unusedSimpArgs false
set_option linter.unusedVariables false
namespace Go.Proofs.Try
open Go.Al
set_option maxRecDepth 100000
open Classical
def ReadsOk (h:List Acc) (ol:List Nat) (k:Nat):Prop:=∀ x ∈ (at' h (ol.getD k 0)).reads,lastAW h (ol.take k) x=srcV h x (at' h (ol.getD k 0)).snap
def FinOk (h:List Acc) (ol:List Nat):Prop:=∀ x,lastAW h ol x≠none->lastAW h ol x=srcV h x 1073741824
structure EqvO (h:List Acc) (order:List Int) (ol:List Nat):Prop where
 eq:order=natL ol
 nodup:ol.Nodup
 mem:∀ i,i ∈ ol↔(i<h.length/\(at' h i).done=true)
 reads:∀ k,k<ol.length->ReadsOk h ol k
 fin:FinOk h ol
structure PreO (h:List Acc) (order:List Int) (ol:List Nat):Prop where
 le:ol.length<=order.length
 eq:order.take ol.length=natL ol
 nodup:ol.Nodup
 ok:∀ i ∈ ol,i<h.length/\(at' h i).done=true
theorem PreO.full {h:List Acc} {order:List Int} {ol:List Nat} (hp:PreO h order ol) (hl:order.length<=ol.length):order=natL ol:=by
 have:=hp.eq
 rwa [List.take_of_length_le hl] at this
open Go.Proofs.Tryz
open Classical
set_option maxHeartbeats 20000000
end Go.Proofs.Try
