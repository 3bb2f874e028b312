/-
 A part of the proof.
-/
import Derived.Test.YtfhoeghdioofmaaGreatKee
set_option linter.unusedSimpArgs false
set_option linter.unusedVariables false
namespace Go.Proofs.Try
open Go.Proofs.Tryz
open Go.Al
set_option maxRecDepth 100000
open Classical
def WfO (kl bs:List Nat) (c:Nat):Prop:=kl.Nodup/\bs.length=kl.length/\(∀ b ∈ bs,b<c)/\bs.Nodup
def upd (f:Nat->Nat) (x v:Nat):Nat->Nat:=fun k=>if k=x then v else f k
theorem natL_getD {l:List Nat} {j:Nat} (h:j<l.length):(natL l).getD j 0=(l.getD j 0:Nat):=by
 simp [natL,h]
theorem WfO.snoc {kl bs:List Nat} {c x:Nat} (h:WfO kl bs c) (hx:x ∉ kl):WfO (kl++[x]) (bs++[c]) (c+1):=by
 obtain ⟨h1,h2,h3,h4⟩:=h
 refine ⟨?_,by simp [h2],?_,?_⟩
 . rw [List.nodup_append]
   exact ⟨h1,by simp,fun a ha b hb=>by simp at hb;subst hb;exact fun e=>hx (e ▸ ha)⟩
 . intro b hb
   rcases List.mem_append.1 hb with hb | hb
   . have:=h3 b hb;omega
   . simp at hb;omega
 . rw [List.nodup_append]
   exact ⟨h4,by simp,fun a ha b hb=>by simp at hb;subst hb;have:=h3 a ha;omega⟩
noncomputable def cnt (h:List Acc) (out:List Nat) (k m:Nat):Nat:=((List.range m).filter fun i=>decide (Edge h i k/\i ∉ out)).length
def SeenK (kl bs seen:List Nat) (k:Nat):Prop:=∃ (i b:Nat),bs[i]?=some b/\b ∈ seen/\kl[i]?=some k
def SeenOk (bs seen:List Nat):Prop:=(∀ b ∈ seen,b ∈ bs)/\seen.Nodup
theorem SeenOk.nil {bs:List Nat}:SeenOk bs []:=⟨by simp,by simp⟩
theorem SeenOk.snoc {bs seen:List Nat} {i b:Nat} (h:SeenOk bs seen) (hb:bs[i]?=some b) (hn:b ∉ seen):SeenOk bs (seen++[b])/\seen.length+1<=bs.length:=by
 have h1:SeenOk bs (seen++[b]):=by
  refine ⟨fun x hx=>?_,?_⟩
  . rcases List.mem_append.1 hx with hx | hx
    . exact h.1 x hx
    . simp at hx;subst hx;exact List.mem_of_getElem? hb
  . rw [List.nodup_append]
    exact ⟨h.2,by simp,fun a ha b' hb'=>by simp at hb';subst hb';exact fun e=>hn (e ▸ ha)⟩
 refine ⟨h1,?_⟩
 have:=nodup_length_le h1.2 h1.1
 simpa using this
theorem SeenK.nil {kl bs:List Nat} {k:Nat}:¬ SeenK kl bs [] k:=fun ⟨_,_,_,h,_⟩=>by simp at h
set_option maxHeartbeats 16000000
open Classical
def Walk (h:List Acc) (s:Nat):Nat->Nat->Prop
 | 0,_=>False
 | 1,i=>s<=i/\i<h.length/\Edge h i s
 | n+2,i=>s<=i/\i<h.length/\∃ j,s<j/\j<h.length/\Edge h i j/\Walk h s (n+1) j
def IsDist (h:List Acc) (s i n:Nat):Prop:=Walk h s n i/\∀ m,m<n->¬ Walk h s m i
noncomputable def dist (h:List Acc) (s i:Nat):Nat:=if hn:∃ n,IsDist h s i n then hn.choose else 0
theorem Walk.range {h:List Acc} {s n i:Nat} (hw:Walk h s n i):s<=i/\i<h.length:=by
 match n,hw with
 | 1,hw=>exact ⟨hw.1,hw.2.1⟩
 | n+2,hw=>exact ⟨hw.1,hw.2.1⟩
theorem Walk.pos {h:List Acc} {s n i:Nat} (hw:Walk h s n i):0<n:=by
 match n,hw with
 | n+1,_=>omega
theorem Walk.one {h:List Acc} {s i:Nat}:Walk h s 1 i↔s<=i/\i<h.length/\Edge h i s:=Iff.rfl
theorem Walk.succ {h:List Acc} {s n i:Nat} (hn:1<=n):Walk h s (n+1) i↔s<=i/\i<h.length/\∃ j,s<j/\j<h.length/\Edge h i j/\Walk h s n j:=by
 obtain ⟨m,rfl⟩:∃ m,n=m+1:=⟨n - 1,by omega⟩
 exact Iff.rfl
theorem exists_least {p:Nat->Prop}:(∃ n,p n)->∃ n,p n/\∀ m,m<n->¬ p m:=by
 rintro ⟨n,hn⟩
 induction n using Nat.strongRecOn with
 | _ n ih =>
   by_cases h:∃ m,m<n/\p m
   . obtain ⟨m,h1,h2⟩:=h
     exact ih m h1 h2
   . exact ⟨n,hn,fun m h1 h2=>h ⟨m,h1,h2⟩⟩
theorem IsDist.of {h:List Acc} {s n i:Nat} (hw:Walk h s n i):∃ m,m<=n/\IsDist h s i m:=by
 obtain ⟨m,h1,h2⟩:=exists_least (p:=fun n=>Walk h s n i) ⟨n,hw⟩
 exact ⟨m,Nat.le_of_not_lt fun hlt=>h2 n hlt hw,h1,h2⟩
theorem IsDist.uniq {h:List Acc} {s i n m:Nat} (h1:IsDist h s i n) (h2:IsDist h s i m):n=m:=by
 by_cases e:n<m
 . exact absurd h1.1 (h2.2 n e)
 . by_cases e':m<n
   . exact absurd h2.1 (h1.2 m e')
   . omega
theorem dist_of {h:List Acc} {s i n:Nat} (hd:IsDist h s i n):dist h s i=n:=by
 have hn:∃ n,IsDist h s i n:=⟨n,hd⟩
 rw [dist,dif_pos hn]
 exact hn.choose_spec.uniq hd
theorem dist_pos {h:List Acc} {s i:Nat} (hd:dist h s i≠0):IsDist h s i (dist h s i):=by
 unfold dist at hd ⊢
 split
 . rename_i hn;exact hn.choose_spec
 . rename_i hn;rw [dif_neg hn] at hd;exact absurd rfl hd
noncomputable def distL (h:List Acc) (s:Nat):List Nat:=(List.range h.length).map (dist h s)
theorem distL_length {h:List Acc} {s:Nat}:(distL h s).length=h.length:=by simp [distL]
theorem distL_get {h:List Acc} {s i:Nat} (hi:i<h.length):(distL h s).getD i 0=dist h s i:=by simp [distL,hi]
theorem nodup_get_ext {a b:List Nat} (hl:a.length=b.length) (h:∀ i,i<a.length->a.getD i 0=b.getD i 0):a=b:=list_ext hl h
theorem nset_self {es:List Nat} {j v:Nat} (h:j<es.length):(es.set j v).getD j 0=v:=by simp [h]
theorem nset_ne {es:List Nat} {j k v:Nat} (h:k≠j):(es.set j v).getD k 0=es.getD k 0:=by
 simp [List.getElem?_set_ne (Ne.symm h)]
open Classical
def lv (q es:List Nat) (k:Nat):Nat:=if k=0 then 0 else es.getD (q.getD k 0) 0
structure Bfs (h:List Acc) (s a:Nat) (q es:List Nat):Prop where
 len:es.length=h.length
 q0:q.getD 0 0=s
 qpos:0<q.length
 nd:q.Nodup
 rg:∀ x ∈ q,s<=x/\x<h.length
 ats:a<=q.length
 nz:∀ k,1<=k->k<q.length->lv q es k≠0
 lvk:∀ k,k<q.length->lv q es k<=k
 mono:∀ k k',k<=k'->k'<q.length->lv q es k<=lv q es k'
 top:∀ i,i<h.length->a<q.length->es.getD i 0<=lv q es a+1
 walk:∀ i,i<h.length->es.getD i 0≠0->Walk h s (es.getD i 0) i/\(i≠s->i ∈ q)
 edge:∀ k,k<a->∀ i,s<=i->i<h.length->Edge h i (q.getD k 0)->es.getD i 0≠0/\es.getD i 0<=lv q es k+1
structure BfsI (h:List Acc) (s a i:Nat) (q es:List Nat):Prop extends Bfs h s a q es where
 lt:a<q.length
 row:∀ i',i'<i->s<=i'->i'<h.length->Edge h i' (q.getD a 0)->es.getD i' 0≠0/\es.getD i' 0<=lv q es a+1
section
variable {h:List Acc} {s a i:Nat} {q es:List Nat}
theorem Bfs.memx (hb:Bfs h s a q es) {k:Nat} (hk:k<q.length):q.getD k 0 ∈ q:=by
 rw [getD_get hk];exact List.getElem_mem hk
theorem BfsI.skip (hb:BfsI h s a i q es) (hi:i<h.length) (hn:Edge h i (q.getD a 0)->es.getD i 0≠0):BfsI h s a (i+1) q es :=
 { hb.toBfs with
   lt:=hb.lt
   row:=fun i' h1 h2 h3 h4=>by
    by_cases e:i'<i
    . exact hb.row i' e h2 h3 h4
    . have:i'=i:=by omega
      subst this
      exact ⟨hn h4,hb.top i' h3 hb.lt⟩ }
theorem BfsI.done (hb:BfsI h s a h.length q es):Bfs h s (a+1) q es :=
 { hb.toBfs with
   ats:=hb.lt
   top:=fun i hi hl=>by
    have h1:=hb.top i hi hb.lt
    have h2:=hb.mono a (a+1) (by omega) hl
    omega
   edge:=fun k hk i h1 h2 h3=>by
    by_cases e:k<a
    . exact hb.edge k e i h1 h2 h3
    . have:k=a:=by omega
      subst this
      exact hb.row i h2 h1 h2 h3 }
theorem BfsI.way (hb:BfsI h s a i q es) (hsi:s<=i) (hi:i<h.length) (he:Edge h i (q.getD a 0)):Walk h s (lv q es a+1) i:=by
 unfold lv
 by_cases ha:a=0
 . subst ha
   rw [hb.q0] at he
   simp only [if_true]
   exact Walk.one.2 ⟨hsi,hi,he⟩
 . simp only [if_neg ha]
   have h1:=hb.nz a (by omega) hb.lt
   simp only [lv,if_neg ha] at h1
   have hm:=hb.memx hb.lt
   obtain ⟨h2,h3⟩:=hb.rg _ hm
   have hne:q.getD a 0≠s:=by
    intro e
    rw [<- hb.q0,getD_get hb.lt,getD_get hb.qpos] at e
    exact ha ((List.getElem_inj hb.nd).1 e)
   exact (Walk.succ (by omega)).2 ⟨hsi,hi,_,by omega,h3,he,(hb.walk _ h3 h1).1⟩
theorem lv_set {v k:Nat} (hne:1<=k->q.getD k 0≠i):lv q (es.set i v) k=lv q es k:=by
 unfold lv
 split
 . rfl
 . rw [nset_ne (hne (by omega))]
theorem lv_snoc {x k:Nat} (hk:k<q.length):lv (q++[x]) es k=lv q es k:=by
 unfold lv
 rw [getD_append_lt hk]
theorem BfsI.ne (hb:BfsI h s a i q es) (h0:es.getD i 0=0) {k:Nat} (hk:k<q.length):1<=k->q.getD k 0≠i:=fun h1 e=>by
 have:=hb.nz k h1 hk
 simp only [lv,if_neg (show k≠0 by omega),e] at this
 exact this h0
theorem BfsI.self (hb:BfsI h s a s q es) (hs:s<h.length) (he:Edge h s (q.getD a 0)) (h0:es.getD s 0=0):BfsI h s a (s+1) q (es.set s (lv q es a+1)):=by
 have hlv:∀ k,k<q.length->lv q (es.set s (lv q es a+1)) k=lv q es k:=fun k hk=>lv_set (hb.ne h0 hk)
 have hw:=hb.way (Nat.le_refl _) hs he
 have hself:(es.set s (lv q es a+1)).getD s 0=lv q es a+1:=nset_self (by rw [hb.len];exact hs)
 exact {
  len:=by simp [hb.len]
  q0:=hb.q0,qpos:=hb.qpos,nd:=hb.nd,rg:=hb.rg,ats:=hb.ats,lt:=hb.lt
  nz:=fun k h1 h2=>by rw [hlv k h2];exact hb.nz k h1 h2
  lvk:=fun k h2=>by rw [hlv k h2];exact hb.lvk k h2
  mono:=fun k k' h1 h2=>by rw [hlv k (by omega),hlv k' h2];exact hb.mono k k' h1 h2
  top:=fun i hi hl=>by
   rw [hlv a hl]
   by_cases e:i=s
   . subst e;rw [hself];omega
   . rw [nset_ne e];exact hb.top i hi hl
  walk:=fun i hi hne=>by
   by_cases e:i=s
   . subst e;rw [hself];exact ⟨hw,fun hh=>absurd rfl hh⟩
   . rw [nset_ne e] at hne ⊢;exact hb.walk i hi hne
  edge:=fun k hk i h1 h2 h3=>by
   rw [hlv k (by have:=hb.lt;omega)]
   have:=hb.edge k hk i h1 h2 h3
   by_cases e:i=s
   . subst e;exact absurd h0 this.1
   . rw [nset_ne e];exact this
  row:=fun i' h1 h2 h3 h4=>by
   rw [hlv a hb.lt]
   have:i'=s:=by omega
   subst this
   rw [hself];omega }
theorem BfsI.push (hb:BfsI h s a i q es) (hsi:s<=i) (his:i≠s) (hi:i<h.length) (he:Edge h i (q.getD a 0)) (h0:es.getD i 0=0):BfsI h s a (i+1) (q++[i]) (es.set i (lv q es a+1)):=by
 have hlt:=hb.lt
 have hw:=hb.way hsi hi he
 have hself:(es.set i (lv q es a+1)).getD i 0=lv q es a+1:=nset_self (by rw [hb.len];exact hi)
 have hlv:∀ k,k<q.length->lv (q++[i]) (es.set i (lv q es a+1)) k=lv q es k:=fun k hk=>by rw [lv_snoc hk];exact lv_set (hb.ne h0 hk)
 have hlast:lv (q++[i]) (es.set i (lv q es a+1)) q.length=lv q es a+1:=by
  have:=hb.qpos
  unfold lv
  rw [if_neg (by omega),getD_append_eq]
  exact hself
 have htop:∀ k,k<q.length->lv q es k<=lv q es a+1:=fun k hk=>by
  by_cases e:k=0
  . simp [lv,e]
  . have:=hb.top (q.getD k 0) (hb.rg _ (hb.memx hk)).2 hb.lt
    simpa only [lv,if_neg e] using this
 have hni:i ∉ q:=by
  intro hq
  obtain ⟨k,hk,e⟩:=List.getElem_of_mem hq
  by_cases e0:k=0
  . subst e0
    have:=hb.q0
    rw [getD_get hb.qpos] at this
    omega
  . exact hb.ne h0 hk (by omega) (by rw [getD_get hk];exact e)
 exact {
  len:=by simp [hb.len]
  q0:=by rw [getD_append_lt hb.qpos];exact hb.q0
  qpos:=by simp
  nd:=by
   rw [List.nodup_append]
   exact ⟨hb.nd,by simp,fun x hx y hy=>by simp at hy;subst hy;exact fun e=>hni (e ▸ hx)⟩
  rg:=fun x hx=>by
   rcases List.mem_append.1 hx with hx | hx
   . exact hb.rg x hx
   . simp at hx;subst hx;exact ⟨hsi,hi⟩
  ats:=by simp;omega
  lt:=by simp;omega
  nz:=fun k h1 h2=>by
   by_cases e:k<q.length
   . rw [hlv k e];exact hb.nz k h1 e
   . have:k=q.length:=by simp at h2;omega
     subst this;rw [hlast];omega
  lvk:=fun k h2=>by
   by_cases e:k<q.length
   . rw [hlv k e];exact hb.lvk k e
   . have:k=q.length:=by simp at h2;omega
     subst this;rw [hlast]
     have:=hb.lvk a hlt
     omega
  mono:=fun k k' h1 h2=>by
   by_cases e':k'<q.length
   . rw [hlv k (by omega),hlv k' e'];exact hb.mono k k' h1 e'
   . have:k'=q.length:=by simp at h2;omega
     subst this
     rw [hlast]
     by_cases e:k<q.length
     . rw [hlv k e];exact htop k e
     . have:k=q.length:=by omega
       subst this;rw [hlast];omega
  top:=fun i' hi' hl=>by
   rw [hlv a hlt]
   by_cases e:i'=i
   . subst e;rw [hself];omega
   . rw [nset_ne e];exact hb.top i' hi' hlt
  walk:=fun i' hi' hne=>by
   by_cases e:i'=i
   . subst e;rw [hself];exact ⟨hw,fun _=>by simp⟩
   . rw [nset_ne e] at hne ⊢
     exact ⟨(hb.walk i' hi' hne).1,fun hh=>List.mem_append_left _ ((hb.walk i' hi' hne).2 hh)⟩
  edge:=fun k hk i' h1 h2 h3=>by
   rw [hlv k (by omega)]
   rw [getD_append_lt (by omega)] at h3
   have:=hb.edge k hk i' h1 h2 h3
   by_cases e:i'=i
   . subst e;exact absurd h0 this.1
   . rw [nset_ne e];exact this
  row:=fun i' h1 h2 h3 h4=>by
   rw [hlv a hlt]
   rw [getD_append_lt hlt] at h4
   by_cases e:i'=i
   . subst e;rw [hself];omega
   . rw [nset_ne e];exact hb.row i' (by omega) h2 h3 h4 }
theorem Bfs.all (hb:Bfs h s q.length q es):∀ m i,Walk h s m i->es.getD i 0≠0/\es.getD i 0<=m
 | 0,i,hw=>hw.elim
 | 1,i,hw=>by
   obtain ⟨h1,h2,h3⟩:=Walk.one.1 hw
   have:=hb.edge 0 hb.qpos i h1 h2 (by rw [hb.q0];exact h3)
   simpa [lv] using this
 | m+2,i,hw=>by
   obtain ⟨h1,h2,j,h3,h4,h5,h6⟩:=(Walk.succ (by omega)).1 hw
   obtain ⟨k1,k2⟩:=Bfs.all hb (m+1) j h6
   have hj:=(hb.walk j h4 k1).2 (by omega)
   obtain ⟨k,hk,e⟩:=List.getElem_of_mem hj
   have e':q.getD k 0=j:=by rw [getD_get hk];exact e
   have:=hb.edge k hk i h1 h2 (by rw [e'];exact h5)
   refine ⟨this.1,Nat.le_trans this.2 ?_⟩
   unfold lv
   split
   . omega
   . rw [e'];omega
theorem Bfs.dist (hb:Bfs h s q.length q es) (hi:i<h.length):es.getD i 0=dist h s i:=by
 by_cases h0:es.getD i 0=0
 . rw [h0]
   refine Classical.byContradiction fun hc=>?_
   exact (hb.all _ _ (dist_pos (h:=h) (s:=s) (i:=i) (by omega)).1).1 h0
 . exact (dist_of ⟨(hb.walk i hi h0).1,fun m hm hw=>by have:=(hb.all m i hw).2;omega⟩).symm
theorem Bfs.eq (hb:Bfs h s q.length q es):es=distL h s:=nodup_get_ext (by rw [hb.len,distL_length]) fun k hk=>by rw [hb.dist (by rw [<- hb.len];exact hk),distL_get (by rw [<- hb.len];exact hk)]
end
end Go.Proofs.Try
