/-
 A part of the proof: see the text of the law.
-/
import Derived.Test.YtchlampphcaomaaGreatDoorPae
set_option linter.unusedSimpArgs false
set_option linter.unusedVariables false
namespace Go.Proofs.Try
open Go.Proofs.Tryz
open Go.Al
set_option maxRecDepth 20000
set_option maxHeartbeats 4000000
def remF:List Bool→Rws→Rws
 | true::us,_::ms=>remF us ms
 | false::us,m::ms=>m::remF us ms
 | _,_=>[]
theorem remF_none:∀ m:Rws,remF (List.replicate m.length false) m=m
 | []=>rfl
 | a::m=>by rw [List.length_cons,List.replicate_succ,remF,remF_none m]
theorem remF_mem {x:List VL}:∀ {us:List Bool} {ms:Rws},us.length=ms.length→(x ∈ remF us ms↔∃ j,j<ms.length∧us.getD j true=false∧ms.getD j default=x)
 | [],[],_=>by simp [remF]
 | [],_::_,h=>by simp at h
 | _::_,[],h=>by simp at h
 | u::us,m::ms,h=>by
   have ih:=remF_mem (x:=x) (us:=us) (ms:=ms) (by simpa using h)
   cases u with
   | true =>
     rw [remF,ih]
     constructor
     · rintro ⟨j,h1,h2,h3⟩;exact ⟨j+1,by simp;omega,by simpa using h2,by simpa using h3⟩
     · rintro ⟨j,h1,h2,h3⟩
       cases j with
       | zero=>simp at h2
       | succ j=>exact ⟨j,by simpa using h1,by simpa using h2,by simpa using h3⟩
   | false =>
     rw [remF,List.mem_cons,ih]
     constructor
     · rintro (rfl | ⟨j,h1,h2,h3⟩)
       · exact ⟨0,by simp,by simp,by simp⟩
       · exact ⟨j+1,by simp;omega,by simpa using h2,by simpa using h3⟩
     · rintro ⟨j,h1,h2,h3⟩
       cases j with
       | zero=>exact .inl (by simpa using h3.symm)
       | succ j=>exact .inr ⟨j,by simpa using h1,by simpa using h2,by simpa using h3⟩
theorem remF_set:∀ {us:List Bool} {ms:Rws} {k:Nat},us.length=ms.length→k<ms.length→us.getD k true=false→(remF us ms).Perm (ms.getD k default::remF (us.set k true) ms)
 | [],[],_,_,h,_=>by simp at h
 | [],_::_,_,h,_,_=>by simp at h
 | _::_,[],_,h,_,_=>by simp at h
 | u::us,m::ms,0,h,_,h2=>by
   simp at h2;subst h2
   simp [remF]
 | u::us,m::ms,k+1,h,h1,h2=>by
   have ih:=remF_set (us:=us) (ms:=ms) (k:=k) (by simpa using h) (by simpa using h1) (by simpa using h2)
   rw [List.set_cons_succ]
   cases u with
   | true=>simpa [remF] using ih
   | false =>
     rw [remF,remF]
     have:=ih.cons m
     simp only [List.getD_cons_succ]
     exact this.trans (List.Perm.swap _ _ _)
theorem rem_no {l m:Rws} {us:List Bool} {i:Nat} (hi:i<l.length) (hlen:us.length=m.length) (hp:(l.take i++remF us m).Perm m) (h:l.getD i default ∉ remF us m):¬ l.Perm m:=fun hlm=>by
 have h1:(l.take i++l.drop i).Perm (l.take i++remF us m):=by rw [List.take_append_drop];exact hlm.trans hp.symm
 have h2:=(List.perm_append_left_iff _).1 h1
 refine h (h2.mem_iff.1 ?_)
 have e:l.drop i=l[i]::l.drop (i+1):=List.drop_eq_getElem_cons hi
 have e2:l.getD i default=l[i]:=by simp [hi]
 rw [e,e2]
 exact List.mem_cons_self ..
theorem rem_yes {l m:Rws} {us:List Bool} {i k:Nat} (hi:i<l.length) (hlen:us.length=m.length) (hk:k<m.length) (hu:us.getD k true=false) (he:m.getD k default=l.getD i default) (hp:(l.take i++remF us m).Perm m):(l.take (i+1)++remF (us.set k true) m).Perm m:=by
 refine List.Perm.trans ?_ hp
 rw [List.take_succ_eq_append_getElem hi,List.append_assoc]
 refine List.Perm.append_left _ ?_
 have:=remF_set hlen hk hu
 rw [he] at this
 have e:l.getD i default=l[i]:=by simp [hi]
 rw [e] at this
 exact this.symm
theorem rem_end {l m:Rws} {us:List Bool} (hl:l.length=m.length) (hp:(l++remF us m).Perm m):l.Perm m:=by
 have h:=hp.length_eq
 rw [List.length_append] at h
 have h2:remF us m=[]:=List.length_eq_zero_iff.1 (by omega)
 rw [h2,List.append_nil] at hp
 exact hp
end Go.Proofs.Try
