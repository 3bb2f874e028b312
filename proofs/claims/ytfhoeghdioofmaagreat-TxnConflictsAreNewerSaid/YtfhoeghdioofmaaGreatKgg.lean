/-
 A part of the proof.
-/
import Derived.Test.YtfhoeghdioofmaaGreatKff
set_option linter.unusedSimpArgs false
set_option linter.unusedVariables false
namespace Go.Al
end Go.Al
namespace Go.Proofs.Try
open Go.Al
set_option maxRecDepth 100000
open Classical
def Best (h:List Acc) (m:Nat):Option (Nat × Nat)->Prop
 | none=>∀ s,s<m->dist h s s=0
 | some (s,n)=>s<m/\dist h s s=n/\n≠0/\∀ s',s'<m->dist h s' s'=0\/n<dist h s' s'\/(n=dist h s' s'/\s<=s')
theorem Best.uniq {h:List Acc} {m:Nat}:∀ {t t':Option (Nat × Nat)},Best h m t->Best h m t'->t=t'
 | none,none,_,_=>rfl
 | none,some (s,n),h1,h2=>absurd (h1 s h2.1) (by rw [h2.2.1];exact h2.2.2.1)
 | some (s,n),none,h2,h1=>absurd (h1 s h2.1) (by rw [h2.2.1];exact h2.2.2.1)
 | some (s,n),some (s',n'),⟨a1,a2,a3,a4⟩,⟨b1,b2,b3,b4⟩=>by
   have h1:=a4 s' b1
   have h2:=b4 s a1
   have:n=n'/\s=s':=by omega
   rw [this.1,this.2]
def NextC (h:List Acc) (s a n j:Nat):Prop:=s<j/\j<h.length/\Edge h a j/\dist h s j=n/\∀ j',s<j'->j'<j->¬ (Edge h a j'/\dist h s j'=n)
def CycL (h:List Acc) (s n:Nat) (c:List Nat):Prop:=c.length<=n/\0<c.length/\c.getD 0 0=s/\∀ k,1<=k->k<c.length->NextC h s (c.getD (k - 1) 0) (n - k) (c.getD k 0)
def CycS (h:List Acc) (c:List Nat):Prop:=(c=[]/\Best h h.length none)\/∃ s n,Best h h.length (some (s,n))/\CycL h s n c/\c.length=n
def CycF (h:List Acc) (c:List Nat):Prop:=if checkS h=0 then CycS h c else c=[]
theorem NextC.uniq {h:List Acc} {s a n j j':Nat} (h1:NextC h s a n j) (h2:NextC h s a n j'):j=j':=by
 by_cases e:j<j'
 . exact absurd ⟨h1.2.2.1,h1.2.2.2.1⟩ (h2.2.2.2.2 j h1.1 e)
 . by_cases e':j'<j
   . exact absurd ⟨h2.2.2.1,h2.2.2.2.1⟩ (h1.2.2.2.2 j' h2.1 e')
   . omega
theorem CycL.uniq {h:List Acc} {s n:Nat} {c c':List Nat} (h1:CycL h s n c) (h2:CycL h s n c') (hl:c.length=c'.length):c=c':=by
 refine nodup_get_ext hl fun k=>?_
 induction k with
 | zero=>intro _;rw [h1.2.2.1,h2.2.2.1]
 | succ k ih =>
   intro hk
   have a:=h1.2.2.2 (k+1) (by omega) hk
   have b:=h2.2.2.2 (k+1) (by omega) (by omega)
   rw [Nat.add_sub_cancel] at a b
   rw [ih (by omega)] at a
   exact a.uniq b
theorem CycS.uniq {h:List Acc} {c c':List Nat} (h1:CycS h c) (h2:CycS h c'):c=c':=by
 rcases h1 with ⟨rfl,h1⟩ | ⟨s,n,h1,a1,a2⟩
 . rcases h2 with ⟨rfl,h2⟩ | ⟨s',n',h2,b1,b2⟩
   . rfl
   . cases h1.uniq h2
 . rcases h2 with ⟨rfl,h2⟩ | ⟨s',n',h2,b1,b2⟩
   . cases h1.uniq h2
   . cases h1.uniq h2
     exact a1.uniq b1 (by omega)
theorem CycF.uniq {h:List Acc} {c c':List Nat} (h1:CycF h c) (h2:CycF h c'):c=c':=by
 unfold CycF at h1 h2
 split at h1
 . rename_i hc;rw [if_pos hc] at h2;exact h1.uniq h2
 . rename_i hc;rw [if_neg hc] at h2;rw [h1,h2]
theorem CycL.one {h:List Acc} {s n:Nat} (hn:0<n):CycL h s n [s]:=⟨by simp;omega,by simp,by simp,fun k h1 h2=>by simp at h2;omega⟩
theorem CycL.snoc {h:List Acc} {s n j:Nat} {c:List Nat} (hc:CycL h s n c) (hl:c.length<n) (hj:NextC h s (c.getD (c.length - 1) 0) (n - c.length) j):CycL h s n (c++[j]):=by
 obtain ⟨h1,h2,h3,h4⟩:=hc
 refine ⟨by simp;omega,by simp,by rw [getD_append_lt h2];exact h3,fun k k1 k2=>?_⟩
 by_cases e:k<c.length
 . rw [getD_append_lt e,getD_append_lt (by omega)]
   exact h4 k k1 e
 . have:k=c.length:=by simp at k2;omega
   subst this
   rw [getD_append_eq,getD_append_lt (by omega)]
   exact hj
theorem CycL.dist {h:List Acc} {s n:Nat} {c:List Nat} (hc:CycL h s n c) (hd:dist h s s=n):∀ k,k<c.length->Try.dist h s (c.getD k 0)=n - k
 | 0,_=>by rw [hc.2.2.1];exact hd
 | k+1,hk=>(hc.2.2.2 (k+1) (by omega) hk).2.2.2.1
theorem CycL.range {h:List Acc} {s n:Nat} {c:List Nat} (hc:CycL h s n c) (hs:s<h.length):∀ k,k<c.length->s<=c.getD k 0/\c.getD k 0<h.length
 | 0,_=>by rw [hc.2.2.1];omega
 | k+1,hk=>by have:=hc.2.2.2 (k+1) (by omega) hk;exact ⟨by have:=this.1;omega,this.2.1⟩
set_option maxHeartbeats 16000000
open Classical
open Classical
def Cand (h:List Acc) (x snap:Int) (i:Nat):Prop:=x ∈ (at' h i).writes/\(at' h i).writer=true/\(at' h i).stamp<=snap
noncomputable def srcTo (h:List Acc) (x snap:Int):Nat->Option Nat
 | 0=>none
 | m+1=>match srcTo h x snap m with
   | none=>if Cand h x snap m then some m else none
   | some b=>if Cand h x snap m/\(at' h b).stamp<(at' h m).stamp then some m else some b
noncomputable def srcV (h:List Acc) (x snap:Int):Option Nat:=srcTo h x snap h.length
noncomputable def lastAW (h:List Acc) (l:List Nat) (x:Int):Option Nat:=l.foldl (fun b i=>if x ∈ (at' h i).writes then some i else b) none
open Go.Proofs.Tryz
open Classical
theorem check_formed {h:List Acc} (hc:checkS h=0):∀ i,i<h.length->(at' h i).Formed:=by
 intro i hi
 simp only [checkS] at hc
 split at hc
 . omega
 . split at hc
   . omega
   . rename_i hb
     exact Classical.byContradiction fun hn=>hb (.inl ⟨i,hi,hn⟩)
end Go.Proofs.Try
