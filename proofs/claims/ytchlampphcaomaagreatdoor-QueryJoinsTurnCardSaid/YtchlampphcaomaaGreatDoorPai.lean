/-
 A part of the proof: see the text of the law.
-/
import Derived.Test.YtchlampphcaomaaGreatDoorPae
set_option linter.unusedSimpArgs false
set_option linter.unusedVariables false
namespace Go.Proofs.Try
open Go.Proofs.Tryz
open Go.Al
set_option maxRecDepth 20000
set_option maxHeartbeats 4000000
mutual
theorem count_cm (f:Int→Int):∀ e:EX,(e.cm f).count=e.count
 | .mk op n k i s args=>by rw [EX.cm,EX.count,EX.count,countL_cm f args]
theorem countL_cm (f:Int→Int):∀ l:List EX,EX.countL (EX.cmL f l)=EX.countL l
 | []=>rfl
 | e::es=>by rw [EX.cmL,EX.countL,EX.countL,count_cm f e,countL_cm f es]
end
theorem cmL_len (f:Int→Int):∀ l:List EX,(EX.cmL f l).length=l.length
 | []=>rfl
 | e::es=>by rw [EX.cmL,List.length_cons,List.length_cons,cmL_len f es]
mutual
theorem formed_cm (f:Int→Int):∀ e:EX,(e.cm f).formed=e.formed
 | .mk op n k i s args=>by
   rw [EX.cm,EX.formed,EX.formed,formedL_cm f args]
   congr 1
   rw [Bool.eq_iff_iff,fm_mk,fm_mk,cmL_len]
   by_cases h:op=1 <;> simp [h]
theorem formedL_cm (f:Int→Int):∀ l:List EX,EX.formedL (EX.cmL f l)=EX.formedL l
 | []=>rfl
 | e::es=>by rw [EX.cmL,EX.formedL,EX.formedL,formed_cm f e,formedL_cm f es]
end
theorem kN_ks {ks ks':List Int} {op n:Int} {v:VL} {l:List Int} (h:op≠1):kN ks op n v l=kN ks' op n v l:=by
 unfold kN
 rw [if_neg h,if_neg h]
theorem kind_cm {f:Int→Int} {ks ks':List Int} (h:∀ k:Int,0≤k→k<ks.length→0≤f k∧f k<ks'.length∧ks'.getD (f k).toNat 0=ks.getD k.toNat 0):∀ t:T,t.wf→t.fits ks.length→(t.cm f).kind ks'=t.kind ks
 | .col k,_,hf=>by
   obtain ⟨h1,h2,h3⟩:=h k hf.1 hf.2
   obtain ⟨h4,h5⟩:=hf
   rw [T.cm,T.kind,T.kind]
   unfold kN
   rw [if_pos rfl,if_pos rfl,h3]
   have e1:¬ f k<0:=by omega
   have e2:¬ f k≥ks'.length:=by omega
   have e3:¬ k<0:=by omega
   have e4:¬ k≥ks.length:=by omega
   simp only [e1,e2,e3,e4,false_or]
 | .val v,_,_=>rfl
 | .un op a,hw,hf=>by
   have:=hw.1
   rw [T.cm,T.kind,T.kind,kind_cm h a hw.2 hf,kN_ks (ks:=ks') (ks':=ks) (by omega)]
 | .bin op a b,hw,hf=>by
   have:=hw.1
   rw [T.cm,T.kind,T.kind,kind_cm h a hw.2.1 hf.1,kind_cm h b hw.2.2 hf.2,kN_ks (ks:=ks') (ks':=ks) (by omega)]
theorem chk_cm {f:Int→Int} {ks ks':List Int} (h:∀ k:Int,0≤k→k<ks.length→0≤f k∧f k<ks'.length∧ks'.getD (f k).toNat 0=ks.getD k.toNat 0) {e:EX} (hk:(chk ks e).2=0):chk ks' (e.cm f)=chk ks e:=by
 obtain ⟨hw,hf⟩:=chk_tr hk
 unfold chk
 rw [count_cm,formed_cm,cm_tr,kind_cm h _ hw hf]
theorem tu_get {α:Type} {d:α} {a b:List α} (hn:b.length≤1000000000) (hm:a.length≤1000000000):∀ k:Int,0≤k→k<(a++b).length→0≤tuI a.length b.length k∧tuI a.length b.length k<(b++a).length∧(b++a).getD (tuI a.length b.length k).toNat d=(a++b).getD k.toNat d:=fun k h1 h2=>by
 rw [List.length_append] at h2 ⊢
 unfold tuI
 split
 · rename_i h
   rw [wrap_small (by omega) (by omega)]
   refine ⟨by omega,by omega,?_⟩
   have e:(k+b.length).toNat=b.length+k.toNat:=by omega
   rw [e]
   simp [List.getD_eq_getElem?_getD,List.getElem?_append_right,List.getElem?_append_left,show k.toNat<a.length by omega]
 · rename_i h
   rw [wrap_small (by omega) (by omega)]
   refine ⟨by omega,by omega,?_⟩
   have e:k.toNat=a.length+(k - a.length).toNat:=by omega
   rw [e]
   simp [List.getD_eq_getElem?_getD,List.getElem?_append_right,List.getElem?_append_left,show (k - a.length).toNat<b.length by omega,show k.toNat - a.length<b.length by omega]
theorem node_join (e:EX) (p q:QY):(joinQ e p q).node=true:=node_iff.2 ⟨by simp [joinQ,QY.kind],by simp [joinQ,QY.kind],by simp [joinQ,QY.bare,QY.kind,QY.tab,QY.cond,QY.cols,QY.grp,QY.aggs,QY.ord,QY.n],by simp [joinQ,QY.kind,QY.subs,subsN],by simp [joinQ,QY.aggs]⟩
theorem formed_join (e:EX) (p q:QY):(joinQ e p q).formed=(p.formed && q.formed):=by
 rw [qformed_eq,node_join]
 simp [joinQ,QY.subs]
theorem count_join (e:EX) (p q:QY):(joinQ e p q).count=p.count+q.count+1:=by
 simp [joinQ,QY.count,QY.countL];omega
theorem sch_join' {tb:List TB} {e:EX} {p q:QY} (hp:(p.sch tb).2=0) (hq:(q.sch tb).2=0) (hl:((p.sch tb).1++(q.sch tb).1).length≤32) (ht:truthE ((p.sch tb).1++(q.sch tb).1) e=0):(joinQ e p q).sch tb=((p.sch tb).1++(q.sch tb).1,0):=by
 rw [sch_eq]
 have h1:mapE (QY.sch tb) (joinQ e p q).subs=([(p.sch tb).1,(q.sch tb).1],0):=by
  rw [mapE_ok]
  · simp [joinQ,QY.subs]
  · intro s hs
    simp [joinQ,QY.subs] at hs
    rcases hs with rfl | rfl <;> assumption
 rw [h1,if_neg (by simp)]
 have e1:([(p.sch tb).1,(q.sch tb).1]:List (List Int)).flatten=(p.sch tb).1++(q.sch tb).1:=by simp
 simp only [e1]
 have e2:nodeK tb (joinQ e p q) ((p.sch tb).1++(q.sch tb).1)=if 32<((p.sch tb).1++(q.sch tb).1).length then ([],2) else if truthE ((p.sch tb).1++(q.sch tb).1) e≠0 then ([],truthE ((p.sch tb).1++(q.sch tb).1) e) else ((p.sch tb).1++(q.sch tb).1,0):=rfl
 rw [e2,if_neg (by omega),if_neg (by simp [ht])]
theorem truth_cm {f:Int→Int} {ks ks':List Int} (h:∀ k:Int,0≤k→k<ks.length→0≤f k∧f k<ks'.length∧ks'.getD (f k).toNat 0=ks.getD k.toNat 0) {e:EX} (hk:truthE ks e=0):truthE ks' (e.cm f)=0:=by
 have h2:=chk_cm h (truthE_ok hk)
 unfold truthE at hk ⊢
 rw [h2];exact hk
theorem sch_truth {tb:List TB} {e:EX} {p q:QY} (h:((joinQ e p q).sch tb).2=0):truthE ((p.sch tb).1++(q.sch tb).1) e=0:=by
 obtain ⟨h1,h2⟩:=sch_parts h
 rw [h2] at h
 have e1:nodeK tb (joinQ e p q) ((joinQ e p q).subs.map fun s=>(s.sch tb).1).flatten=if 32<((p.sch tb).1++(q.sch tb).1).length then ([],2) else if truthE ((p.sch tb).1++(q.sch tb).1) e≠0 then ([],truthE ((p.sch tb).1++(q.sch tb).1) e) else ((p.sch tb).1++(q.sch tb).1,0):=by
  simp [joinQ,nodeK,QY.kind,QY.subs,QY.cond]
 rw [e1] at h
 split at h
 · simp at h
 · split at h
   · rename_i h3;exact absurd h h3
   · rename_i h3;simpa using h3
theorem schema_turn {tb:List TB} {p q:QY} {on:EX} (h:(schema tb (joinQ on p q)).2=0):(schema tb (joinQ (on.cm (tuI (p.sch tb).1.length (q.sch tb).1.length)) q p)).2=0:=by
 obtain ⟨hf,_,hs,hc⟩:=schema_ok h
 have ht:=sch_truth hs
 obtain ⟨h1,h2,h3,h4,_⟩:=sch_join hs
 rw [count_join] at hc
 rw [formed_join,Bool.and_eq_true] at hf
 rw [List.length_append] at h4
 unfold schema
 rw [count_join,formed_join,show q.count+p.count+1=p.count+q.count+1 by omega,if_neg (by omega),if_pos (by simp [hf]),sch_join' h2 h1 (by rw [List.length_append];omega) (truth_cm (tu_get (by omega) (by omega)) ht)]
def jrows (on:EX) (P Q:Rws):Rws:=P.flatMap fun a=>(Q.map (a ++ ·)).filter fun r=>on.tr.holds r
theorem run_join' {db:List DA} {e:EX} {p q:QY} (hp:(p.run db).2=0) (hq:(q.run db).2=0) (he:∀ a ∈ (p.run db).1,∀ b ∈ (q.run db).1,(e.tr.eval (a++b)).2=0) (hl:(jrows e (p.run db).1 (q.run db).1).length≤4000):(joinQ e p q).run db=(jrows e (p.run db).1 (q.run db).1,0):=by
 rw [run_eq]
 have h1:mapE (QY.run db) (joinQ e p q).subs=([(p.run db).1,(q.run db).1],0):=by
  rw [mapE_ok]
  · simp [joinQ,QY.subs]
  · intro s hs
    simp [joinQ,QY.subs] at hs
    rcases hs with rfl | rfl <;> assumption
 rw [h1,if_neg (by simp)]
 have e1:nodeR db (joinQ e p q) [(p.run db).1,(q.run db).1]=joinE e (p.run db).1 (q.run db).1:=rfl
 simp only [e1]
 have h2:∀ a ∈ (p.run db).1,holdE e ((q.run db).1.map (a ++ ·))=(((q.run db).1.map (a ++ ·)).filter fun r=>e.tr.holds r,0):=fun a ha=>by
  unfold holdE
  rw [mapE_ok (l:=(q.run db).1.map (a ++ ·)) (f:=fun r=>e.tr.eval r) fun r hr=>by
   obtain ⟨b,hb,rfl⟩:=List.mem_map.1 hr
   exact he a ha b hb]
  rfl
 have h3:joinE e (p.run db).1 (q.run db).1=(jrows e (p.run db).1 (q.run db).1,0):=by
  unfold joinE
  rw [mapE_ok (f:=fun a=>holdE e ((q.run db).1.map (a ++ ·))) fun a ha=>by rw [h2 a ha]]
  simp only [jrows,List.flatMap]
  congr 2
  exact List.map_congr_left fun a ha=>by rw [h2 a ha]
 rw [h3]
 unfold lim
 rw [if_pos rfl,if_neg (by simp only;omega)]
theorem flat_app {β γ:Type} (f g:β→List γ):∀ m:List β,(m.flatMap f++m.flatMap g).Perm (m.flatMap fun b=>f b++g b)
 | []=>.nil
 | b::m=>by
   rw [List.flatMap_cons,List.flatMap_cons,List.flatMap_cons,List.append_assoc,List.append_assoc]
   refine List.Perm.append_left _ ?_
   refine (List.Perm.trans ?_ ((flat_app f g m).append_left (g b)))
   rw [← List.append_assoc,← List.append_assoc]
   exact List.perm_append_comm.append_right _
theorem swap_flat {α β γ:Type} (g:α→β→List γ):∀ (l:List α) (m:List β),(l.flatMap fun a=>m.flatMap fun b=>g a b).Perm (m.flatMap fun b=>l.flatMap fun a=>g a b)
 | [],m=>by
   have:(m.flatMap fun b=>([]:List α).flatMap fun a=>g a b)=[]:=by induction m with
    | nil=>rfl
    | cons b m ih=>rw [List.flatMap_cons,ih];rfl
   rw [this];exact .nil
 | a::l,m=>by
   rw [List.flatMap_cons]
   refine ((swap_flat g l m).append_left _).trans ?_
   have:=flat_app (fun b=>g a b) (fun b=>l.flatMap fun a=>g a b) m
   exact this
theorem filt_flat {α β:Type} (p:β→Bool) (f:α→β):∀ m:List α,(m.map f).filter p=m.flatMap fun b=>if p (f b)=true then [f b] else []
 | []=>rfl
 | b::m=>by
   rw [List.map_cons,List.flatMap_cons,← filt_flat p f m]
   by_cases h:p (f b)=true
   · rw [List.filter_cons_of_pos h,if_pos h];rfl
   · rw [List.filter_cons_of_neg h,if_neg h];rfl
theorem map_flatMap' {α β γ:Type} (f:β→γ) (g:α→List β):∀ l:List α,(l.flatMap g).map f=l.flatMap fun a=>(g a).map f
 | []=>rfl
 | a::l=>by rw [List.flatMap_cons,List.flatMap_cons,List.map_append,map_flatMap' f g l]
theorem turn_perm {P Q:Rws} {n:Nat} (hP:∀ a ∈ P,a.length=n) {on on':EX} (h:∀ a ∈ P,∀ b ∈ Q,on'.tr.holds (b++a)=on.tr.holds (a++b)):((jrows on P Q).map fun r=>r.drop n++r.take n).Perm (jrows on' Q P):=by
 have e1:(jrows on P Q).map (fun r=>r.drop n++r.take n)=P.flatMap fun a=>Q.flatMap fun b=>if on.tr.holds (a++b)=true then [b++a] else []:=by
  unfold jrows
  rw [map_flatMap']
  refine flatMap_cong fun a ha=>?_
  rw [filt_flat,map_flatMap']
  refine flatMap_cong fun b hb=>?_
  have hn:=hP a ha
  by_cases hh:on.tr.holds (a++b)=true
  · rw [if_pos hh,if_pos hh]
    simp [← hn]
  · rw [if_neg hh,if_neg hh];rfl
 have e2:jrows on' Q P=Q.flatMap fun b=>P.flatMap fun a=>if on.tr.holds (a++b)=true then [b++a] else []:=by
  unfold jrows
  refine flatMap_cong fun b hb=>?_
  rw [filt_flat]
  exact flatMap_cong fun a ha=>by rw [h a ha b hb]
 rw [e1,e2]
 exact swap_flat _ _ _
theorem jrows_len {P Q:Rws} {n:Nat} (hP:∀ a ∈ P,a.length=n) {on on':EX} (h:∀ a ∈ P,∀ b ∈ Q,on'.tr.holds (b++a)=on.tr.holds (a++b)):(jrows on' Q P).length=(jrows on P Q).length:=by
 rw [← (turn_perm hP h).length_eq,List.length_map]
section
variable {db:List DA} (hdb:∀ d ∈ db,d.right) {p q:QY} {on on':EX} (hp:(schema (db.map DA.t) p).2=0) (hq:(schema (db.map DA.t) q).2=0) (hj:(schema (db.map DA.t) (joinQ on p q)).2=0)
 (ho:on'=on.cm (tuI (schema (db.map DA.t) p).1.length (schema (db.map DA.t) q).1.length))
include hdb hp hq hj ho
theorem turn_eval:∀ a ∈ (p.run db).1,∀ b ∈ (q.run db).1,on'.tr.eval (b++a)=on.tr.eval (a++b):=fun a ha b hb=>by
 have ra:=(rows_ok hdb hp a ha).1
 have rb:=(rows_ok hdb hq b hb).1
 obtain ⟨_,ep,_,_⟩:=schema_ok hp
 obtain ⟨_,eq,_,_⟩:=schema_ok hq
 obtain ⟨_,_,hs,_⟩:=schema_ok hj
 obtain ⟨_,_,h3,h4,_⟩:=sch_join hs
 rw [← ep,← eq] at h3 h4
 obtain ⟨hw,hf⟩:=chk_tr h3
 rw [List.length_append] at h4
 rw [ho,cm_tr,← ra,← rb]
 refine eval_cm (fun k k1 k2=>(tu_get (d:=default) (by omega) (by omega) k k1 (by rw [List.length_append];omega)).2.2) _ hw (n:=a.length+b.length) ?_
 rw [List.length_append] at hf
 rw [ra,rb];exact hf
omit hdb in
theorem turn_schema:(schema (db.map DA.t) (joinQ on' q p)).2=0:=by
 obtain ⟨_,ep,_,_⟩:=schema_ok hp
 obtain ⟨_,eq,_,_⟩:=schema_ok hq
 rw [ho,ep,eq]
 exact schema_turn hj
theorem turn_holds:∀ a ∈ (p.run db).1,∀ b ∈ (q.run db).1,on'.tr.holds (b++a)=on.tr.holds (a++b):=fun a ha b hb=>by
 unfold T.holds
 rw [turn_eval hdb hp hq hj ho a ha b hb]
theorem turn_to (h:(meaning db (joinQ on p q)).2=0):(meaning db (joinQ on' q p)).2=0∧((meaning db (joinQ on p q)).1.map fun r=>r.drop (schema (db.map DA.t) p).1.length++r.take (schema (db.map DA.t) p).1.length).Perm (meaning db (joinQ on' q p)).1∧∀ r ∈ (meaning db (joinQ on p q)).1,r.length=(schema (db.map DA.t) p).1.length+(schema (db.map DA.t) q).1.length:=by
 obtain ⟨_,e1,r1⟩:=meaning_ok h
 obtain ⟨g1,g2,g3,g4⟩:=run_join r1
 have hP:∀ a ∈ (p.run db).1,a.length=(schema (db.map DA.t) p).1.length:=fun a ha=>(rows_ok hdb hp a ha).1
 have hh:=turn_holds hdb hp hq hj ho
 have hl:(jrows on (p.run db).1 (q.run db).1).length≤4000:=by have:=run_len db (joinQ on p q);rw [g4] at this;exact this
 have hr:=run_join' g2 g1 (e:=on') (fun b hb a ha=>by rw [turn_eval hdb hp hq hj ho a ha b hb];exact g3 a ha b hb) (by rw [jrows_len hP hh];exact hl)
 have hm:meaning db (joinQ on' q p)=(joinQ on' q p).run db:=by
  unfold meaning
  rw [if_neg (by simp [turn_schema hp hq hj ho])]
 rw [hm,hr,e1,g4]
 refine ⟨rfl,turn_perm hP hh,fun r hr=>?_⟩
 obtain ⟨a,ha,hr⟩:=List.mem_flatMap.1 hr
 obtain ⟨b,hb,rfl⟩:=List.mem_map.1 (List.mem_filter.1 hr).1
 rw [List.length_append,hP a ha,(rows_ok hdb hq b hb).1]
theorem turn_from (h:(meaning db (joinQ on' q p)).2=0):(meaning db (joinQ on p q)).2=0:=by
 obtain ⟨_,e1,r1⟩:=meaning_ok h
 obtain ⟨g1,g2,g3,g4⟩:=run_join r1
 have hP:∀ a ∈ (p.run db).1,a.length=(schema (db.map DA.t) p).1.length:=fun a ha=>(rows_ok hdb hp a ha).1
 have hh:=turn_holds hdb hp hq hj ho
 have hl:(jrows on' (q.run db).1 (p.run db).1).length≤4000:=by have:=run_len db (joinQ on' q p);rw [g4] at this;exact this
 have hr:=run_join' g2 g1 (e:=on) (fun a ha b hb=>by rw [← turn_eval hdb hp hq hj ho a ha b hb];exact g3 b hb a ha) (by rw [← jrows_len hP hh];exact hl)
 have hm:meaning db (joinQ on p q)=(joinQ on p q).run db:=by
  unfold meaning
  rw [if_neg (by simp [hj])]
 rw [hm,hr]
end
def yesX:EX:=.mk 2 0 3 1 ⟨#[]⟩ []
theorem yes_holds (r:List VL):yesX.tr.holds r=true:=by
 simp [yesX,EX.tr,EX.trL,mkT,T.holds,T.eval,VL.is,VL.ofB]
theorem jrows_yes (P Q:Rws):jrows yesX P Q=P.flatMap fun a=>Q.map (a ++ ·):=by
 unfold jrows
 refine flatMap_cong fun a _=>List.filter_eq_self.2 fun r _=>yes_holds r
theorem cm_id:∀ t:T,t.cm (fun k=>k)=t
 | .col _=>rfl
 | .val _=>rfl
 | .un _ a=>by rw [T.cm,cm_id a]
 | .bin _ a b=>by rw [T.cm,cm_id a,cm_id b]
theorem turn_three {db:List DA} (hdb:∀ d ∈ db,d.right) {p q t:QY} {on:EX} (hp:(schema (db.map DA.t) p).2=0) (hq:(schema (db.map DA.t) q).2=0) (hj:(schema (db.map DA.t) (joinQ on p q)).2=0)
 (h1:(meaning db (joinQ yesX (joinQ on p q) t)).2=0) (h2:(meaning db (joinQ on p (joinQ yesX q t))).2=0):(meaning db (joinQ yesX (joinQ on p q) t)).1=(meaning db (joinQ on p (joinQ yesX q t))).1:=by
 obtain ⟨_,e1,r1⟩:=meaning_ok h1
 obtain ⟨_,e2,r2⟩:=meaning_ok h2
 obtain ⟨a1,_,_,a2⟩:=run_join r1
 obtain ⟨_,_,_,a3⟩:=run_join a1
 obtain ⟨_,b1,_,b2⟩:=run_join r2
 obtain ⟨_,_,_,b3⟩:=run_join b1
 have f1:((joinQ yesX (joinQ on p q) t).run db).1=jrows yesX (jrows on (p.run db).1 (q.run db).1) (t.run db).1:=by rw [a2,a3];rfl
 have f2:((joinQ on p (joinQ yesX q t)).run db).1=jrows on (p.run db).1 (jrows yesX (q.run db).1 (t.run db).1):=by rw [b2,b3];rfl
 rw [e1,e2,f1,f2,jrows_yes,jrows_yes]
 obtain ⟨_,ep,_,_⟩:=schema_ok hp
 obtain ⟨_,eq,_,_⟩:=schema_ok hq
 obtain ⟨_,_,hs,_⟩:=schema_ok hj
 obtain ⟨_,_,h3,h4,_⟩:=sch_join hs
 rw [← ep,← eq] at h3 h4
 obtain ⟨hw,hf⟩:=chk_tr h3
 unfold jrows
 rw [List.flatMap_assoc]
 refine flatMap_cong fun a ha=>?_
 have ra:=(rows_ok hdb hp a ha).1
 rw [flatMap_filt,map_flatMap',filter_flatMap',List.flatMap_map]
 refine flatMap_cong fun b hb=>?_
 have rb:=(rows_ok hdb hq b hb).1
 have key:∀ c:List VL,on.tr.holds (a++(b++c))=on.tr.holds (a++b):=fun c=>by
  have:=holds_cm (f:=fun k=>k) (r:=a++b) (r':=a++(b++c)) (n:=((schema (db.map DA.t) p).1++(schema (db.map DA.t) q).1).length) (fun k k1 k2=>by
   rw [List.length_append] at k2
   rw [← List.append_assoc]
   rw [List.getD_eq_getElem?_getD,List.getD_eq_getElem?_getD,List.getElem?_append_left (show k.toNat<(a++b).length by rw [List.length_append];omega)]) hw hf
  rw [← this]
  congr 1
  exact (cm_id _).symm
 by_cases hh:on.tr.holds (a++b)=true
 · rw [if_pos hh]
   rw [List.filter_eq_self.2]
   · simp
   · intro r hr
     obtain ⟨r',hr',rfl⟩:=List.mem_map.1 hr
     obtain ⟨c,_,rfl⟩:=List.mem_map.1 hr'
     rw [key,hh]
 · rw [if_neg hh]
   refine (List.filter_eq_nil_iff.2 fun r hr=>?_).symm
   obtain ⟨r',hr',rfl⟩:=List.mem_map.1 hr
   obtain ⟨c,_,rfl⟩:=List.mem_map.1 hr'
   rw [key];exact hh
end Go.Proofs.Try
