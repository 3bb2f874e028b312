/-
 A part of the proof.
-/
import Derived.Test.YtfhoeghdioofmaaGreatKcc
set_option linter.unusedSimpArgs false
set_option linter.unusedVariables false
namespace Go.Proofs.Try
open Go.Al
set_option maxRecDepth 100000
open Classical
def Ready (h:List Acc) (T:Nat->Prop) (j:Nat):Prop:=j<h.length/\(at' h j).done=true/\¬ T j/\∀ i,i<h.length->Edge h i j->T i
def NextS (h:List Acc) (T:Nat->Prop):Option Nat->Prop
 | none=>∀ j,¬ Ready h T j
 | some j=>Ready h T j/\∀ j',Ready h T j'->j<=j'
def nextV:Option Nat->Int | none=>-1 | some j=>j
set_option maxHeartbeats 16000000
open Classical
theorem nodup_length_le {α:Type} [DecidableEq α]:∀ {l m:List α},l.Nodup->(∀ x ∈ l,x ∈ m)->l.length<=m.length
 | [],_,_,_=>by simp
 | x::l,m,hn,hs=>by
   have hx:x ∈ m:=hs x (by simp)
   have hn':=List.nodup_cons.1 hn
   have:=nodup_length_le (l:=l) (m:=m.erase x) hn'.2 fun y hy=>(List.mem_erase_of_ne (fun e=>hn'.1 (by rw [<- e];exact hy))).2 (hs y (by simp [hy]))
   rw [List.length_erase_of_mem hx] at this
   have:0<m.length:=List.length_pos_of_mem hx
   simp;omega
theorem nodup_full {α:Type} [DecidableEq α] {l m:List α} (hn:l.Nodup) (hs:∀ x ∈ l,x ∈ m) (hl:m.length<=l.length):∀ x ∈ m,x ∈ l:=by
 intro x hx
 refine Classical.byContradiction fun hc=>?_
 have:=nodup_length_le (l:=x::l) (m:=m) (List.nodup_cons.2 ⟨hc,hn⟩) (by
  intro y hy
  rcases List.mem_cons.1 hy with rfl | hy
  . exact hx
  . exact hs y hy)
 simp at this;omega
def Seq (h:List Acc) (out:List Nat):Prop:=∀ k,k<out.length->NextS h (· ∈ out.take k) (some (out.getD k 0))
def SerialS (h:List Acc):Option (List Nat)->Prop
 | none=>∃ out,Seq h out/\(∃ j,j<h.length/\(at' h j).done=true/\j ∉ out)/\NextS h (· ∈ out) none
 | some out=>Seq h out/\∀ j,j<h.length->(at' h j).done=true->j ∈ out
def SerialF (h:List Acc) (t:Option (List Nat)):Prop:=if checkS h=0 then SerialS h t else t=none
def natL (l:List Nat):List Int:=l.map fun j:Nat=>(j:Int)
def intsA (l:List Int):AV:=.view 1 (l.map (AV.int .i64))
def serA:Option (List Nat)->AV
 | none=>.tup [.view 1 [],.bool false]
 | some out=>.tup [.view 1 ((natL out).map (AV.int .i64)),.bool true]
theorem Seq.nil {h:List Acc}:Seq h []:=fun k hk=>by simp at hk
theorem take_append_le {α:Type} {l:List α} {x:α} {k:Nat} (hk:k<=l.length):(l++[x]).take k=l.take k:=by
 rw [List.take_append_of_le_length hk]
theorem getD_append_lt {l:List Nat} {x k:Nat} (hk:k<l.length):(l++[x]).getD k 0=l.getD k 0:=by
 simp [List.getElem?_append_left hk]
theorem getD_append_eq {l:List Nat} {x:Nat}:(l++[x]).getD l.length 0=x:=by simp
theorem Seq.snoc {h:List Acc} {out:List Nat} {j:Nat} (hs:Seq h out) (hj:NextS h (· ∈ out) (some j)):Seq h (out++[j]):=by
 intro k hk
 by_cases hkl:k<out.length
 . rw [take_append_le (by omega),getD_append_lt hkl]
   exact hs k hkl
 . have:k=out.length:=by simp at hk;omega
   subst this
   rw [take_append_le (Nat.le_refl _),List.take_length,getD_append_eq]
   exact hj
theorem Seq.ok {h:List Acc} {out:List Nat} (hs:Seq h out):∀ j ∈ out,j<h.length/\(at' h j).done=true:=by
 intro j hj
 obtain ⟨k,hk,rfl⟩:=List.getElem_of_mem hj
 have:=hs k hk
 rw [getD_get hk] at this
 exact ⟨this.1.1,this.1.2.1⟩
theorem Seq.init {h:List Acc} {out:List Nat} {j:Nat} (hs:Seq h (out++[j])):Seq h out:=by
 intro k hk
 have:=hs k (by simp;omega)
 rwa [take_append_le (by omega),getD_append_lt hk] at this
theorem Seq.last {h:List Acc} {out:List Nat} {j:Nat} (hs:Seq h (out++[j])):NextS h (· ∈ out) (some j):=by
 have:=hs out.length (by simp)
 rwa [take_append_le (Nat.le_refl _),List.take_length,getD_append_eq] at this
theorem Seq.nodup {h:List Acc}:∀ {out:List Nat},Seq h out->out.Nodup:=by
 intro out
 induction h':out.length generalizing out with
 | zero=>intro _;rw [List.eq_nil_of_length_eq_zero h'];simp
 | succ n ih =>
   intro hs
   obtain ⟨l,x,rfl⟩:∃ l x,out=l++[x]:=⟨out.dropLast,out.getLast (by intro e;simp [e] at h'),(List.dropLast_concat_getLast _).symm⟩
   have hl:l.length=n:=by simpa using h'
   have h1:=ih hl hs.init
   have h2:=hs.last.1.2.2.1
   rw [List.nodup_append]
   exact ⟨h1,by simp,fun a ha b hb=>by simp at hb;subst hb;exact fun e=>h2 (e ▸ ha)⟩
theorem Seq.pref {h:List Acc} {a b:List Nat} (ha:Seq h a) (hb:Seq h b):∀ k,k<=a.length->k<=b.length->a.take k=b.take k:=by
 intro k
 induction k with
 | zero=>simp
 | succ k ih =>
   intro h1 h2
   have e:=ih (by omega) (by omega)
   have x:=ha k (by omega)
   have y:=hb k (by omega)
   rw [e] at x
   have:a.getD k 0=b.getD k 0:=Nat.le_antisymm (x.2 _ y.1) (y.2 _ x.1)
   rw [getD_get (by omega),getD_get (by omega)] at this
   rw [List.take_succ_eq_append_getElem (by omega),List.take_succ_eq_append_getElem (by omega),e,this]
theorem SerialS.full {h:List Acc} {a b:List Nat} (ha:Seq h a) (hf:∀ j,j<h.length->(at' h j).done=true->j ∈ a) (hb:Seq h b):b.length<=a.length:=by
 refine Classical.byContradiction fun hc=>?_
 have e:=Seq.pref ha hb a.length (Nat.le_refl _) (by omega)
 rw [List.take_length] at e
 have:=hb a.length (by omega)
 rw [<- e] at this
 exact this.1.2.2.1 (hf _ this.1.1 this.1.2.1)
def doneL (h:List Acc):List Nat:=(List.range h.length).filter fun j=>(at' h j).done
theorem mem_doneL {h:List Acc} {j:Nat}:j ∈ doneL h↔j<h.length/\(at' h j).done=true:=by simp [doneL]
theorem doneL_len (h:List Acc):(doneL h).length<=h.length:=Nat.le_trans (List.length_filter_le _ _) (by simp)
theorem Seq.le {h:List Acc} {out:List Nat} (hs:Seq h out):out.length<=(doneL h).length:=nodup_length_le hs.nodup fun x hx=>mem_doneL.2 (hs.ok x hx)
theorem Seq.full {h:List Acc} {out:List Nat} (hs:Seq h out) (hl:(doneL h).length<=out.length):∀ j,j<h.length->(at' h j).done=true->j ∈ out:=fun j h1 h2 =>
 nodup_full hs.nodup (fun x hx=>mem_doneL.2 (hs.ok x hx)) hl j (mem_doneL.2 ⟨h1,h2⟩)
def tb (h:List Acc) (out:List Nat):List Bool:=(List.range h.length).map fun i=>decide (i ∈ out)
end Go.Proofs.Try
