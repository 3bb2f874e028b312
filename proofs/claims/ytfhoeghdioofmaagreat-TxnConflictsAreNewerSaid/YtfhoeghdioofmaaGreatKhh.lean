/-
 A part of the proof.
-/
import Derived.Test.YtfhoeghdioofmaaGreatKgg
set_option linter.unusedSimpArgs false
set_option linter.unusedVariables false
namespace Go.Proofs.Try
open Go.Al
set_option maxRecDepth 100000
open Classical
def ReadsOk (h:List Acc) (ol:List Nat) (k:Nat):Prop:=∀ x ∈ (at' h (ol.getD k 0)).reads,lastAW h (ol.take k) x=srcV h x (at' h (ol.getD k 0)).snap
def FinOk (h:List Acc) (ol:List Nat):Prop:=∀ x,lastAW h ol x≠none->lastAW h ol x=srcV h x 1073741824
structure EqvO (h:List Acc) (order:List Int) (ol:List Nat):Prop where
 eq:order=natL ol
 nodup:ol.Nodup
 mem:∀ i,i ∈ ol↔(i<h.length/\(at' h i).done=true)
 reads:∀ k,k<ol.length->ReadsOk h ol k
 fin:FinOk h ol
structure PreO (h:List Acc) (order:List Int) (ol:List Nat):Prop where
 le:ol.length<=order.length
 eq:order.take ol.length=natL ol
 nodup:ol.Nodup
 ok:∀ i ∈ ol,i<h.length/\(at' h i).done=true
theorem PreO.nil {h:List Acc} {order:List Int}:PreO h order []:=⟨by simp,by simp [natL],by simp,by simp⟩
theorem natL_inj {a b:List Nat} (h:natL a=natL b):a=b:=by
 simp only [natL] at h
 exact (List.map_inj_right (fun x y e=>Int.ofNat.inj e)).1 h
theorem natL_take {l:List Nat} {n:Nat}:(natL l).take n=natL (l.take n):=by simp [natL]
theorem natL_append {a b:List Nat}:natL (a++b)=natL a++natL b:=by simp [natL]
theorem PreO.snoc {h:List Acc} {order:List Int} {ol:List Nat} {x:Nat} (hp:PreO h order ol) (hl:ol.length<order.length) (hx:order.getD ol.length 0=x) (h1:x<h.length) (h2:(at' h x).done=true) (h3:x ∉ ol):PreO h order (ol++[x]):=by
 refine ⟨by simp;omega,?_,?_,fun i hi=>?_⟩
 . rw [List.length_append,List.length_singleton,List.take_add_one,hp.eq,natL_append]
   rw [getD_get hl] at hx
   simp [List.getElem?_eq_getElem hl,hx,natL]
 . rw [List.nodup_append]
   exact ⟨hp.nodup,by simp,fun a ha b hb=>by simp at hb;subst hb;exact fun e=>h3 (e ▸ ha)⟩
 . rcases List.mem_append.1 hi with hi | hi
   . exact hp.ok i hi
   . simp at hi;subst hi;exact ⟨h1,h2⟩
theorem EqvO.next {h:List Acc} {order:List Int} {ol ol':List Nat} (he:EqvO h order ol') (hp:PreO h order ol) (hl:ol.length<order.length):∃ x:Nat,order.getD ol.length 0=x/\x<h.length/\(at' h x).done=true/\x ∉ ol:=by
 obtain ⟨rfl,hn,hm,_,_⟩:=he
 have hl':ol.length<ol'.length:=by simpa [natL] using hl
 have e:ol'.take ol.length=ol:=by
  apply natL_inj
  rw [<- natL_take,hp.eq]
 refine ⟨ol'[ol.length],by rw [natL_getD hl'];simp [hl'],((hm _).1 (List.getElem_mem _)).1,((hm _).1 (List.getElem_mem _)).2,fun hc=>?_⟩
 have hc:ol'[ol.length] ∈ ol'.take ol.length:=e.symm ▸ hc
 obtain ⟨j,hj,e2⟩:=List.getElem_of_mem hc
 rw [List.getElem_take] at e2
 have:=(List.getElem_inj hn).1 e2
 simp at hj
 omega
theorem EqvO.same {h:List Acc} {ol ol':List Nat} (he:EqvO h (natL ol) ol'):ol'=ol:=natL_inj he.eq.symm
theorem PreO.full {h:List Acc} {order:List Int} {ol:List Nat} (hp:PreO h order ol) (hl:order.length<=ol.length):order=natL ol:=by
 have:=hp.eq
 rwa [List.take_of_length_le hl] at this
def SeenF (h:List Acc) (kl:List Int) (f:Int->Nat) (bs seen:List Nat):Prop:=∀ (i b:Nat) (k:Int),bs[i]?=some b->b ∈ seen->kl[i]?=some k->some (f k)=srcV h k 1073741824
theorem SeenF.snoc {h:List Acc} {kl:List Int} {f:Int->Nat} {bs seen:List Nat} {i b:Nat} {k:Int} (hs:SeenF h kl f bs seen) (hn:bs.Nodup) (hb:bs[i]?=some b) (hk:kl[i]?=some k) (hf:some (f k)=srcV h k 1073741824):SeenF h kl f bs (seen++[b]):=by
 intro i' b' k' h1 h2 h3
 rcases List.mem_append.1 h2 with h2 | h2
 . exact hs i' b' k' h1 h2 h3
 . simp at h2
   subst h2
   obtain ⟨l1,e1⟩:=List.getElem?_eq_some_iff.1 h1
   obtain ⟨l2,e2⟩:=List.getElem?_eq_some_iff.1 hb
   have:i'=i:=(List.getElem_inj hn).1 (e1.trans e2.symm)
   subst this
   rw [hk] at h3
   cases h3
   exact hf
theorem SeenF.all {h:List Acc} {kl:List Int} {f:Int->Nat} {bs seen:List Nat} (hs:SeenF h kl f bs seen) (hl:bs.length=kl.length) (ha:∀ b ∈ bs,b ∈ seen) (k:Int) (hk:k ∈ kl):some (f k)=srcV h k 1073741824:=by
 obtain ⟨i,hi,rfl⟩:=List.getElem_of_mem hk
 exact hs i bs[i] kl[i] (by simp [hl,hi]) (ha _ (List.getElem_mem _)) (by simp [hi])
open Go.Proofs.Tryz
open Classical
set_option maxHeartbeats 20000000
end Go.Proofs.Try
