/-
 A part of the proof.
-/
import Derived.Test.YtfhoeghdioofmaaGreatPcc
import Derived.Test.YtfhoeghdioofmaaGreatEoo
set_option linter.unusedSimpArgs false
set_option linter.unusedVariables false
namespace Go.Proofs.Try
open Go.Al
set_option maxRecDepth 100000
set_option maxHeartbeats 16000000
structure UX where (num mode snap:Int) (done:Bool) (stamp:Int) (log:List WR) (rows whole:List Int) deriving Inhabited
def strip (w:WR):WR:=⟨w.tab,w.row,false,[]⟩
def Sm (k:Int × Int):Prop:=(0<=k.1/\k.1<=2)/\1<=k.2/\k.2<=8
structure RelT (t:TX) (u:UX):Prop where
 mode:u.mode=t.mode
 snap:u.snap=t.snap
 done:u.done=t.done
 stamp:u.stamp=t.stamp
 log:u.log=t.log.map strip
 reads:∀ k,Sm k->((k ∈ t.rows\/k.1 ∈ t.whole)↔(itemI k ∈ u.rows\/k.1 ∈ u.whole))
 rowsT:∀ k ∈ t.rows,Sm k
 nodup:t.rows.Nodup
structure UOk (s:TS) (u:UX):Prop where
 mode:0<=u.mode/\u.mode<=2
 snap:0<=u.snap/\u.snap<=s.shown
 ro:u.mode=2->u.log=[]
 keys:∀ w ∈ u.log,Sm w.key
 rows:∀ x ∈ u.rows,∃ k,Sm k/\x=itemI k
 whole:∀ x ∈ u.whole,0<=x/\x<=2
 wr:u.done=true->u.log≠[]->u.snap<u.stamp/\u.stamp<=s.last
 nw:¬ (u.done=true/\u.log≠[])->u.stamp=0
def meetU (a b:UX):Prop:=∃ u ∈ a.log,∃ v ∈ b.log,u.key=v.key
def Forg (s:TS) (u:UX):Prop:=u.done=true/\u.stamp<=leastK s/\(0<u.stamp\/u.snap<=leastK s)
def SepU (a b:UX):Prop:=a.done=true->b.done=true->a.log≠[]->b.log≠[]->a.num≠b.num->a.stamp≠b.stamp/\(a.stamp<b.stamp->meetU a b->a.stamp<=b.snap)
structure Gh (all:List UX) (s:TS) (kp:List (Int × TX)):Prop where
 kept:kp.map (·.2)=s.kept
 ids:((kp++s.act).map (·.1)).Nodup
 nums:(all.map (·.num)).Nodup
 top:∀ u ∈ all,0<u.num/\u.num<=s.begun
 rel:∀ p ∈ kp++s.act,∃ u ∈ all,u.num=p.1/\RelT p.2 u
 ok:∀ u ∈ all,UOk s u
 sep:∀ a ∈ all,∀ b ∈ all,SepU a b
 forg:∀ u ∈ all,(∃ p ∈ kp++s.act,p.1=u.num)\/Forg s u
theorem num_inj {all:List UX} (hn:(all.map (·.num)).Nodup) {u v:UX} (hu:u ∈ all) (hv:v ∈ all) (e:u.num=v.num):u=v:=by
 induction all with
 | nil=>cases hu
 | cons x l ih =>
   simp only [List.map_cons,List.nodup_cons,List.mem_map,not_exists,not_and] at hn
   rcases List.mem_cons.1 hu with rfl | hu' <;> rcases List.mem_cons.1 hv with rfl | hv'
   . rfl
   . exact absurd e.symm (hn.1 v hv')
   . exact absurd e (hn.1 u hu')
   . exact ih hn.2 hu' hv'
theorem minK_ge {α:Type} (c:α->Prop) [DecidablePred c] (f:α->Int) (a:Int):∀ (l:List α) (m:Int),a<=m->(∀ p ∈ l,c p->a<=f p)->a<=l.foldl (fun k t=>if c t then min k (f t) else k) m
 | [],m=>fun h _=>h
 | x::l,m=>fun h k=>by
   rw [List.foldl_cons]
   refine minK_ge c f a l _ ?_ fun p hp=>k p (by simp [hp])
   split
   . rename_i hc;have:=k x (by simp) hc;omega
   . exact h
theorem leastK_ge {s:TS} {a:Int} (h:a<=leastA s) (hk:∀ t ∈ s.kept,leastA s<t.stamp->a<=t.snap):a<=leastK s :=
 minK_ge (fun t:TX=>leastA s<t.stamp) (fun t=>t.snap) a s.kept (leastA s) h hk
theorem leastA_ge {s:TS} {a:Int} (h:a<=s.shown) (hk:∀ p ∈ s.act,a<=p.2.snap):a<=leastA s:=minA_ge (fun p:Int × TX=>p.2.snap) a s.act s.shown h hk
theorem least_mono {s s':TS} (hA:leastA s<=leastA s') (hk:∀ t ∈ s'.kept,t ∈ s.kept\/leastK s<=t.snap):leastK s<=leastK s':=by
 refine leastK_ge (by have:=leastK_le s;omega) fun t ht hlt=>?_
 rcases hk t ht with h | h
 . exact leastK_snap s h (by omega)
 . exact h
theorem Forg.mono {s s':TS} {u:UX} (h:Forg s u) (hl:leastK s<=leastK s'):Forg s' u:=⟨h.1,by have:=h.2.1;omega,by have:=h.2.2;omega⟩
theorem UOk.mono {s s':TS} {u:UX} (h:UOk s u) (h1:s.shown<=s'.shown) (h2:s.last<=s'.last):UOk s' u :=
 ⟨h.mode,⟨h.snap.1,by have:=h.snap.2;omega⟩,h.ro,h.keys,h.rows,h.whole,fun a b=>by have:=h.wr a b;omega,h.nw⟩
theorem Gh.new {last:Int}:Gh [] ⟨last,last,0,[],[]⟩ []:=⟨rfl,by simp,by simp,by simp,by simp,by simp,by simp,by simp⟩
theorem least_forget (s:TS):leastK s<=leastK (forgetS s):=least_mono (Int.le_refl _) fun t ht=>.inl (mem_forget.1 ht).1
theorem Gh.forget {all:List UX} {s:TS} {kp:List (Int × TX)} (h:Gh all s kp) (hdn:∀ t ∈ s.kept,t.done=true):Gh all (forgetS s) (kp.filter fun p=>!gone (leastK s) p.2):=by
 have hsub:∀ p,p ∈ kp.filter (fun p=>!gone (leastK s) p.2)++(forgetS s).act->p ∈ kp++s.act:=fun p hp=>by
  rcases List.mem_append.1 hp with hp | hp
  . exact List.mem_append_left _ (List.mem_filter.1 hp).1
  . exact List.mem_append_right _ hp
 refine ⟨?_,h.ids.sublist ?_,h.nums,h.top,fun p hp=>h.rel p (hsub p hp),fun u hu=>(h.ok u hu).mono (Int.le_refl _) (Int.le_refl _),h.sep,fun u hu=>?_⟩
 . simp only [forgetS,<- h.kept,List.filter_map];rfl
 . exact (List.Sublist.append_right List.filter_sublist _).map _
 . rcases h.forg u hu with ⟨p,hp,e⟩ | h1
   . rcases List.mem_append.1 hp with hp | hp
     . by_cases hg:gone (leastK s) p.2=true
       . right
         obtain ⟨v,hv,e2,hr⟩:=h.rel p (List.mem_append_left _ hp)
         have huv:v=u:=by
          exact num_inj h.nums hv hu (e2.trans e)
         subst huv
         have hpk:p.2 ∈ s.kept:=by rw [<- h.kept];exact List.mem_map.2 ⟨p,hp,rfl⟩
         have h2:=gone_iff.1 hg
         have h3:=least_forget s
         refine ⟨by rw [hr.done];exact hdn _ hpk,?_,?_⟩
         . rw [hr.stamp];omega
         . rw [hr.stamp,hr.snap];omega
       . exact .inl ⟨p,List.mem_append_left _ (List.mem_filter.2 ⟨hp,by simpa using hg⟩),e⟩
     . exact .inl ⟨p,List.mem_append_right _ hp,e⟩
   . exact .inr (h1.mono (least_forget s))
section
variable {all:List UX} {s:TS} {kp:List (Int × TX)}
theorem Gh.kp_ne (h:Gh all s kp) {tx:Int} {t:TX} (hg:getT s tx=some t) {p:Int × TX} (hp:p ∈ kp):p.1≠tx:=fun e=>by
 have:=h.ids
 rw [List.map_append,List.nodup_append] at this
 exact this.2.2 p.1 (List.mem_map.2 ⟨p,hp,rfl⟩) tx (List.mem_map.2 ⟨_,getT_pair hg,rfl⟩) e
theorem Gh.act_rel (h:Gh all s kp) {tx:Int} {t:TX} (hg:getT s tx=some t):∃ u ∈ all,u.num=tx/\RelT t u:=h.rel _ (List.mem_append_right _ (getT_pair hg))
theorem Gh.del (h:Gh all s kp) {tx:Int} {t:TX} (hg:getT s tx=some t):Gh (all.filter fun u=>decide (u.num≠tx)) (delT s tx) kp:=by
 have hm:∀ u,u ∈ all.filter (fun u=>decide (u.num≠tx))↔u ∈ all/\u.num≠tx:=fun u=>by simp
 have hA:leastA s<=leastA (delT s tx):=leastA_ge (leastA_shown s) fun p hp=>leastA_snap s (mem_del.1 hp).1
 have hl:=least_mono (s:=s) (s':=delT s tx) hA fun t ht=>.inl ht
 have hne:∀ p ∈ kp++(delT s tx).act,p.1≠tx/\p ∈ kp++s.act:=fun p hp=>by
  rcases List.mem_append.1 hp with hp | hp
  . exact ⟨h.kp_ne hg hp,List.mem_append_left _ hp⟩
  . exact ⟨(mem_del.1 hp).2,List.mem_append_right _ (mem_del.1 hp).1⟩
 refine ⟨h.kept,h.ids.sublist ((List.Sublist.append_left List.filter_sublist _).map _),h.nums.sublist (List.filter_sublist.map _),fun u hu=>h.top u ((hm u).1 hu).1,fun p hp=>?_,fun u hu=>(h.ok u ((hm u).1 hu).1).mono (Int.le_refl _) (Int.le_refl _),fun a ha b hb=>h.sep a ((hm a).1 ha).1 b ((hm b).1 hb).1,fun u hu=>?_⟩
 . obtain ⟨h1,h2⟩:=hne p hp
   obtain ⟨u,hu,e,hr⟩:=h.rel p h2
   exact ⟨u,(hm u).2 ⟨hu,by rw [e];exact h1⟩,e,hr⟩
 . obtain ⟨h1,h2⟩:=(hm u).1 hu
   rcases h.forg u h1 with ⟨p,hp,e⟩ | hf
   . refine .inl ⟨p,?_,e⟩
     rcases List.mem_append.1 hp with hp | hp
     . exact List.mem_append_left _ hp
     . exact List.mem_append_right _ (mem_del.2 ⟨hp,by rw [e];exact h2⟩)
   . exact .inr (hf.mono hl)
theorem mem_setT_act {tx:Int} {t':TX} {p:Int × TX} (hp:p ∈ s.act) (hne:p.1≠tx):p ∈ (setT s tx t').act:=by
 simp only [setT,List.mem_map]
 exact ⟨p,hp,by simp [hne]⟩
theorem mem_setT_new {tx:Int} {t t':TX} (hg:getT s tx=some t):(tx,t') ∈ (setT s tx t').act:=by
 simp only [setT,List.mem_map]
 exact ⟨_,getT_pair hg,by simp⟩
def mapN (all:List UX) (tx:Int) (f:UX->UX):List UX:=all.map fun v=>if v.num=tx then f v else v
theorem mem_mapN {tx:Int} {f:UX->UX} (hn:(all.map (·.num)).Nodup) {u:UX} (hu:u ∈ all) (e:u.num=tx) {v:UX}:v ∈ mapN all tx f↔v=f u\/(v ∈ all/\v.num≠tx):=by
 simp only [mapN,List.mem_map]
 constructor
 . rintro ⟨w,hw,rfl⟩
   by_cases h:w.num=tx
   . rw [if_pos h,num_inj hn hw hu (h.trans e.symm)];exact .inl rfl
   . rw [if_neg h];exact .inr ⟨hw,h⟩
 . rintro (rfl | ⟨hv,h⟩)
   . exact ⟨u,hu,by rw [if_pos e]⟩
   . exact ⟨v,hv,by rw [if_neg h]⟩
theorem mapN_nums {tx:Int} {f:UX->UX} (hf:∀ u,(f u).num=u.num):(mapN all tx f).map (·.num)=all.map (·.num):=by
 simp only [mapN,List.map_map]
 refine List.map_congr_left fun v _=>?_
 by_cases h:v.num=tx <;> simp [h,hf]
theorem Gh.set (h:Gh all s kp) {tx:Int} {t t':TX} (hg:getT s tx=some t) {u:UX} (hu:u ∈ all) (e:u.num=tx) {f:UX->UX} (hf:∀ u,(f u).num=u.num) (hr:RelT t' (f u)) (hk:UOk s (f u)) (hd:(f u).done=false) (hs:t'.snap=t.snap):Gh (mapN all tx f) (setT s tx t') kp:=by
 have hm:=fun {v}=>mem_mapN (f:=f) h.nums hu e (v:=v)
 have hA:leastA s<=leastA (setT s tx t'):=leastA_ge (leastA_shown s) fun p hp=>by
  rcases mem_set_act hp with rfl | ⟨hp,_⟩
  . simp only;rw [hs];exact leastA_snap s (getT_pair hg)
  . exact leastA_snap s hp
 have hl:=least_mono (s:=s) (s':=setT s tx t') hA fun t ht=>.inl ht
 refine ⟨h.kept,?_,by rw [mapN_nums hf];exact h.nums,fun v hv=>?_,fun p hp=>?_,fun v hv=>?_,fun a ha b hb=>?_,fun v hv=>?_⟩
 . have:=h.ids
   rw [List.map_append] at this ⊢
   rw [set_keys];exact this
 . rcases hm.1 hv with rfl | ⟨hv,_⟩
   . rw [hf];exact h.top u hu
   . exact h.top v hv
 . rcases List.mem_append.1 hp with hp | hp
   . obtain ⟨v,hv,e2,hr2⟩:=h.rel p (List.mem_append_left _ hp)
     exact ⟨v,hm.2 (.inr ⟨hv,by rw [e2];exact h.kp_ne hg hp⟩),e2,hr2⟩
   . rcases mem_set_act hp with rfl | ⟨hp,hne⟩
     . exact ⟨f u,hm.2 (.inl rfl),by rw [hf];exact e,hr⟩
     . obtain ⟨v,hv,e2,hr2⟩:=h.rel p (List.mem_append_right _ hp)
       exact ⟨v,hm.2 (.inr ⟨hv,by rw [e2];exact hne⟩),e2,hr2⟩
 . rcases hm.1 hv with rfl | ⟨hv,_⟩
   . exact hk.mono (Int.le_refl _) (Int.le_refl _)
   . exact (h.ok v hv).mono (Int.le_refl _) (Int.le_refl _)
 . intro da db
   rcases hm.1 ha with rfl | ⟨ha,_⟩
   . rw [hd] at da;cases da
   . rcases hm.1 hb with rfl | ⟨hb,_⟩
     . rw [hd] at db;cases db
     . exact h.sep a ha b hb da db
 . rcases hm.1 hv with rfl | ⟨hv,hne⟩
   . exact .inl ⟨_,List.mem_append_right _ (mem_setT_new hg),by rw [hf];exact e.symm⟩
   . rcases h.forg v hv with ⟨p,hp,e2⟩ | h1
     . refine .inl ⟨p,?_,e2⟩
       rcases List.mem_append.1 hp with hp | hp
       . exact List.mem_append_left _ hp
       . exact List.mem_append_right _ (mem_setT_act hp (by rw [e2];exact hne))
     . exact .inr (h1.mono hl)
theorem Gh.done_kp (h:Gh all s kp) (hiv:IvS s) {u:UX} (hu:u ∈ all) (hd:u.done=true):(∃ p ∈ kp,p.1=u.num/\p.2 ∈ s.kept/\RelT p.2 u)\/Forg s u:=by
 rcases h.forg u hu with ⟨p,hp,e⟩ | hf
 . left
   obtain ⟨v,hv,e2,hr⟩:=h.rel p hp
   obtain rfl:=num_inj h.nums hv hu (e2.trans e)
   rcases List.mem_append.1 hp with hp | hp
   . exact ⟨p,hp,e,by rw [<- h.kept];exact List.mem_map.2 ⟨p,hp,rfl⟩,hr⟩
   . have:=(hiv.act p hp).1
     rw [hr.done,this] at hd;cases hd
 . exact .inr hf
theorem RelT.meet {a b:TX} {u v:UX} (ha:RelT a u) (hb:RelT b v):meetU u v↔meetT a b:=by
 unfold meetU meetT
 rw [ha.log,hb.log]
 constructor
 . rintro ⟨x,hx,y,hy,e⟩
   obtain ⟨x',hx',rfl⟩:=List.mem_map.1 hx
   obtain ⟨y',hy',rfl⟩:=List.mem_map.1 hy
   exact ⟨x',hx',y',hy',e⟩
 . rintro ⟨x,hx,y,hy,e⟩
   exact ⟨_,List.mem_map.2 ⟨x,hx,rfl⟩,_,List.mem_map.2 ⟨y,hy,rfl⟩,e⟩
theorem RelT.nil {a:TX} {u:UX} (ha:RelT a u):u.log=[]↔a.log=[]:=by rw [ha.log];simp
def doneU (S:Int) (u:UX):UX:={ u with done:=true,stamp:=S }
theorem Gh.commit {N:Nat} (h:Gh all s kp) (hok:OkS N s) (hiv:IvS s) {tx S L:Int} {t:TX} (hg:getT s tx=some t) (he:(admitS (histS s) (idxT s tx)).2=0) (hc:(t.log=[]/\S=0/\L=s.last)\/(t.log≠[]/\S=s.last+1/\L=s.last+1)) :
 Gh (mapN all tx (doneU S)) { delT s tx with last:=L,kept:=s.kept++[{ t with done:=true,stamp:=S }] } (kp++[(tx,{ t with done:=true,stamp:=S })]):=by
 obtain ⟨u,hu,e,hr⟩:=h.act_rel hg
 have hm:=fun {v}=>mem_mapN (f:=doneU S) h.nums hu e (v:=v)
 have hsh:=hiv.sh
 have hsn:=leastA_snap s (getT_pair hg)
 simp only at hsn
 have hlk:=leastK_le s
 have hA:leastA s<=leastA ({ delT s tx with last:=L,kept:=s.kept++[{ t with done:=true,stamp:=S }] }:TS):=leastA_ge (leastA_shown s) fun p hp=>leastA_snap s (mem_del.1 hp).1
 have hl:=least_mono (s:=s) (s':={ delT s tx with last:=L,kept:=s.kept++[{ t with done:=true,stamp:=S }] }) hA fun v hv=>by
  rcases List.mem_append.1 hv with hv | hv
  . exact .inl hv
  . rw [List.mem_singleton.1 hv];right;simp only;omega
 have huo:=h.ok u hu
 have hne:∀ p ∈ kp++(delT s tx).act,p.1≠tx/\p ∈ kp++s.act:=fun p hp=>by
  rcases List.mem_append.1 hp with hp | hp
  . exact ⟨h.kp_ne hg hp,List.mem_append_left _ hp⟩
  . exact ⟨(mem_del.1 hp).2,List.mem_append_right _ (mem_del.1 hp).1⟩
 have hrn:RelT { t with done:=true,stamp:=S } (doneU S u):=⟨hr.mode,hr.snap,rfl,rfl,hr.log,hr.reads,hr.rowsT,hr.nodup⟩
 have hsnu:=huo.snap
 have hlog:=hr.nil
 refine ⟨by rw [List.map_append,h.kept];rfl,?_,by rw [mapN_nums (f:=doneU S) fun _=>rfl];exact h.nums,fun v hv=>?_,fun p hp=>?_,fun v hv=>?_,fun a ha b hb da db la lb hab=>?_,fun v hv=>?_⟩
 . have h1:((kp++(delT s tx).act).map (·.1)).Nodup:=h.ids.sublist ((List.Sublist.append_left List.filter_sublist _).map _)
   have h2:tx ∉ (kp++(delT s tx).act).map (·.1):=fun hx=>by
    obtain ⟨p,hp,e2⟩:=List.mem_map.1 hx
    exact (hne p hp).1 e2
   have h3:((kp++[(tx,({ t with done:=true,stamp:=S }:TX))]++(delT s tx).act).map fun p:Int × TX=>p.1).Perm (tx::(kp++(delT s tx).act).map fun p:Int × TX=>p.1):=by
    rw [List.append_assoc,List.map_append,List.map_append,List.map_append]
    exact List.perm_middle
   exact (h3.nodup_iff).2 (List.nodup_cons.2 ⟨h2,h1⟩)
 . rcases hm.1 hv with rfl | ⟨hv,_⟩
   . exact h.top u hu
   . exact h.top v hv
 . rw [List.append_assoc,List.mem_append] at hp
   rcases hp with hp | hp
   . obtain ⟨v,hv,e2,hr2⟩:=h.rel p (List.mem_append_left _ hp)
     exact ⟨v,hm.2 (.inr ⟨hv,by rw [e2];exact h.kp_ne hg hp⟩),e2,hr2⟩
   . rcases List.mem_cons.1 hp with rfl | hp
     . exact ⟨doneU S u,hm.2 (.inl rfl),e,hrn⟩
     . obtain ⟨v,hv,e2,hr2⟩:=h.rel p (List.mem_append_right _ (mem_del.1 hp).1)
       exact ⟨v,hm.2 (.inr ⟨hv,by rw [e2];exact (mem_del.1 hp).2⟩),e2,hr2⟩
 . rcases hm.1 hv with rfl | ⟨hv,_⟩
   . refine ⟨huo.mode,huo.snap,huo.ro,huo.keys,huo.rows,huo.whole,fun _ hl=>?_,fun hn=>?_⟩
     . simp only [doneU] at hl ⊢
       rcases hc with ⟨h1,_⟩ | ⟨_,h2,h3⟩
       . exact absurd (hlog.2 h1) hl
       . omega
     . simp only [doneU,true_and,ne_eq,Decidable.not_not] at hn ⊢
       rcases hc with ⟨_,h2,_⟩ | ⟨h1,_⟩
       . exact h2
       . exact absurd (hlog.1 hn) h1
   . refine (h.ok v hv).mono (Int.le_refl _) ?_
     simp only;rcases hc with ⟨_,_,h3⟩ | ⟨_,_,h3⟩ <;> omega
 . rcases hm.1 ha with rfl | ⟨ha,na⟩
   . rcases hm.1 hb with rfl | ⟨hb,nb⟩
     . exact absurd rfl hab
     . rcases hc with ⟨h1,_⟩ | ⟨_,h2,_⟩
       . exact absurd (hlog.2 h1) la
       . have:=(h.ok b hb).wr db lb
         refine ⟨by simp only [doneU];omega,fun hlt=>?_⟩
         simp only [doneU] at hlt;omega
   . rcases hm.1 hb with rfl | ⟨hb,nb⟩
     . rcases hc with ⟨h1,_⟩ | ⟨_,h2,_⟩
       . exact absurd (hlog.2 h1) lb
       . have:=(h.ok a ha).wr da la
         refine ⟨by simp only [doneU];omega,fun _ hmt=>?_⟩
         show a.stamp<=u.snap
         rw [hr.snap]
         rcases h.done_kp hiv ha da with ⟨p,_,_,hpk,hpr⟩ | hf
         . have hmt2:meetU a u:=hmt
           have:=commit_sep hok hiv hg he hpk ((hpr.meet hr).1 hmt2)
           rw [hpr.stamp];exact this
         . have:=hf.2.1;omega
     . exact h.sep a ha b hb da db la lb hab
 . rcases hm.1 hv with rfl | ⟨hv,hnv⟩
   . exact .inl ⟨(tx,{ t with done:=true,stamp:=S }),by simp,e.symm⟩
   . rcases h.forg v hv with ⟨p,hp,e2⟩ | hf
     . refine .inl ⟨p,?_,e2⟩
       rcases List.mem_append.1 hp with hp | hp
       . exact List.mem_append_left _ (List.mem_append_left _ hp)
       . exact List.mem_append_right _ (mem_del.2 ⟨hp,by rw [e2];exact hnv⟩)
     . exact .inr (hf.mono hl)
theorem Gh.publish (h:Gh all s kp) {a:Int} (ha:s.shown<=a):Gh all { s with shown:=a } kp:=by
 have hA:leastA s<=leastA ({ s with shown:=a }:TS):=leastA_ge (by have:=leastA_shown s;simp only;omega) fun p hp=>leastA_snap s hp
 have hl:=least_mono (s:=s) (s':={ s with shown:=a }) hA fun t ht=>.inl ht
 exact ⟨h.kept,h.ids,h.nums,h.top,h.rel,fun u hu=>(h.ok u hu).mono ha (Int.le_refl _),h.sep,fun u hu=>(h.forg u hu).imp id fun hf=>hf.mono hl⟩
theorem Gh.begin (h:Gh all s kp) (hiv:IvS s) {mode:Int} (hm:0<=mode/\mode<=2) (h0:0<=s.begun):Gh (all++[⟨s.begun+1,mode,s.shown,false,0,[],[],[]⟩]) { s with begun:=s.begun+1,act:=s.act++[(s.begun+1,⟨mode,s.shown,false,0,[],[],[]⟩)] } kp:=by
 have hA:leastA s<=leastA ({ s with begun:=s.begun+1,act:=s.act++[(s.begun+1,⟨mode,s.shown,false,0,[],[],[]⟩)] }:TS):=leastA_ge (leastA_shown s) fun p hp=>by
  rcases List.mem_append.1 hp with hp | hp
  . exact leastA_snap s hp
  . rw [List.mem_singleton.1 hp];exact leastA_shown s
 have hl:=least_mono (s:=s) (s':={ s with begun:=s.begun+1,act:=s.act++[(s.begun+1,⟨mode,s.shown,false,0,[],[],[]⟩)] }) hA fun t ht=>.inl ht
 have hnew:∀ p ∈ kp++s.act,p.1<=s.begun:=fun p hp=>by
  obtain ⟨u,hu,e,_⟩:=h.rel p hp
  rw [<- e];exact (h.top u hu).2
 refine ⟨h.kept,?_,?_,fun u hu=>?_,fun p hp=>?_,fun u hu=>?_,fun a ha b hb da db=>?_,fun u hu=>?_⟩
 . rw [<- List.append_assoc,List.map_append]
   refine List.nodup_append.2 ⟨h.ids,by simp,fun x hx y hy=>?_⟩
   obtain ⟨p,hp,rfl⟩:=List.mem_map.1 hx
   simp only [List.map_cons,List.map_nil,List.mem_singleton] at hy
   have:=hnew p hp
   omega
 . rw [List.map_append]
   refine List.nodup_append.2 ⟨h.nums,by simp,fun x hx y hy=>?_⟩
   obtain ⟨p,hp,rfl⟩:=List.mem_map.1 hx
   simp only [List.map_cons,List.map_nil,List.mem_singleton] at hy
   have:=(h.top p hp).2
   omega
 . rcases List.mem_append.1 hu with hu | hu
   . have:=h.top u hu;simp only;omega
   . rw [List.mem_singleton.1 hu];simp only;omega
 . rw [<- List.append_assoc] at hp
   rcases List.mem_append.1 hp with hp | hp
   . obtain ⟨u,hu,e,hr⟩:=h.rel p hp
     exact ⟨u,List.mem_append_left _ hu,e,hr⟩
   . rw [List.mem_singleton.1 hp]
     exact ⟨_,List.mem_append_right _ (List.mem_singleton.2 rfl),rfl,⟨rfl,rfl,rfl,rfl,rfl,by simp,by simp,by simp⟩⟩
 . rcases List.mem_append.1 hu with hu | hu
   . exact (h.ok u hu).mono (Int.le_refl _) (Int.le_refl _)
   . rw [List.mem_singleton.1 hu]
     exact ⟨hm,⟨hiv.sh.1,Int.le_refl _⟩,fun _=>rfl,by simp,by simp,by simp,by simp,fun _=>rfl⟩
 . rcases List.mem_append.1 ha with ha | ha
   . rcases List.mem_append.1 hb with hb | hb
     . exact h.sep a ha b hb da db
     . rw [List.mem_singleton.1 hb] at db;cases db
   . rw [List.mem_singleton.1 ha] at da;cases da
 . rcases List.mem_append.1 hu with hu | hu
   . rcases h.forg u hu with ⟨p,hp,e⟩ | hf
     . exact .inl ⟨p,by rw [<- List.append_assoc];exact List.mem_append_left _ hp,e⟩
     . exact .inr (hf.mono hl)
   . rw [List.mem_singleton.1 hu]
     exact .inl ⟨_,by rw [<- List.append_assoc];exact List.mem_append_right _ (List.mem_singleton.2 rfl),rfl⟩
end
def fullR (all:List UX) (u:UX):List Int:=ascL (u.rows++all.flatMap fun v=>(v.log.filter fun w=>u.whole.contains w.tab).map fun w=>itemI w.key)
def fullA (all:List UX) (u:UX):Acc:=⟨u.mode,u.snap,u.done,u.stamp,fullR all u,ascL (u.log.map fun w=>itemI w.key)⟩
def fullS (all:List UX):List Acc:=all.map (fullA all)
theorem fullS_len (all:List UX):(fullS all).length=all.length:=by simp [fullS]
theorem at_full {all:List UX} {j:Nat} (hj:j<all.length):at' (fullS all) j=fullA all (all.getD j default):=by simp [at',fullS,hj]
theorem mem_fullW {all:List UX} {u:UX} {x:Int}:x ∈ (fullA all u).writes↔∃ w ∈ u.log,itemI w.key=x:=by
 simp only [fullA,mem_ascL,List.mem_map]
theorem mem_fullR {all:List UX} {u:UX} {x:Int}:x ∈ (fullA all u).reads↔x ∈ u.rows\/∃ v ∈ all,∃ w ∈ v.log,w.tab ∈ u.whole/\itemI w.key=x:=by
 simp only [fullA,fullR,mem_ascL,List.mem_append,List.mem_flatMap,List.mem_map,List.mem_filter,List.contains_iff_mem]
 refine or_congr Iff.rfl ⟨?_,?_⟩
 . rintro ⟨v,hv,w,⟨hw,ht⟩,e⟩;exact ⟨v,hv,w,hw,ht,e⟩
 . rintro ⟨v,hv,w,hw,ht,e⟩;exact ⟨v,hv,w,⟨hw,ht⟩,e⟩
theorem fullW_nil {all:List UX} {u:UX}:0<(fullA all u).writes.length↔u.log≠[]:=by
 constructor
 . intro h e
   obtain ⟨x,hx⟩:=List.exists_mem_of_length_pos h
   obtain ⟨w,hw,_⟩:=mem_fullW.1 hx
   rw [e] at hw;cases hw
 . intro h
   obtain ⟨w,m,e⟩:=List.exists_cons_of_ne_nil h
   exact List.length_pos_of_mem (mem_fullW.2 ⟨w,by rw [e];simp,rfl⟩)
theorem Sm.rng {k:Int × Int} (h:Sm k):0<=k.2/\k.2<=1073741824:=by have:=h.2;omega
def readU (u v:UX):Prop:=∃ w ∈ v.log,itemI w.key ∈ u.rows\/w.tab ∈ u.whole
def readT' (t o:TX):Prop:=∃ w ∈ o.log,w.key ∈ t.rows\/w.tab ∈ t.whole
theorem meet_full {all:List UX} {s:TS} {u v:UX} (hok:∀ u ∈ all,UOk s u) (hu:u ∈ all) (hv:v ∈ all):Meet (fullA all u).reads (fullA all v).writes↔readU u v:=by
 constructor
 . rintro ⟨x,h1,h2⟩
   obtain ⟨w,hw,rfl⟩:=mem_fullW.1 h2
   refine ⟨w,hw,?_⟩
   rcases mem_fullR.1 h1 with h | ⟨v',hv',w',hw',ht,e⟩
   . exact .inl h
   . have:=item_inj ((hok v' hv').keys w' hw').rng ((hok v hv).keys w hw).rng e
     right
     have e2:w'.tab=w.tab:=congrArg Prod.fst this
     rw [<- e2];exact ht
 . rintro ⟨w,hw,h⟩
   refine ⟨itemI w.key,mem_fullR.2 ?_,mem_fullW.2 ⟨w,hw,rfl⟩⟩
   rcases h with h | h
   . exact .inl h
   . exact .inr ⟨v,hv,w,hw,h,rfl⟩
theorem mem_seen {t o:TX} {x:Int} (h:x ∈ seenOf t o):∃ w ∈ o.log,w.tab ∈ t.whole/\x=itemI w.key:=by
 unfold seenOf at h
 cases e:(lastW o.log).find? (fun w=>t.whole.contains w.tab) with
 | none=>rw [e] at h;cases h
 | some w =>
   rw [e,List.mem_singleton] at h
   have h1:=List.find?_some e
   exact ⟨w,lastW_mem w (List.mem_of_find?_eq_some e),by simpa using h1,h⟩
theorem seen_some {t o:TX} {w:WR} (hw:w ∈ o.log) (ht:w.tab ∈ t.whole):∃ w' ∈ o.log,itemI w'.key ∈ seenOf t o:=by
 obtain ⟨v,hv,e⟩:=mem_lastW_key.2 ⟨w,hw,rfl⟩
 have e2:v.tab=w.tab:=congrArg Prod.fst e
 unfold seenOf
 cases e3:(lastW o.log).find? (fun w=>t.whole.contains w.tab) with
 | none =>
   rw [List.find?_eq_none] at e3
   exact absurd (by simp [e2,ht]) (e3 v hv)
 | some w'=>exact ⟨w',lastW_mem w' (List.mem_of_find?_eq_some e3),by simp⟩
theorem meet_hist {N:Nat} {s:TS} (hok:OkS N s) {i j:Nat} (hi:i<(allS s).length) (hj:j<(allS s).length) (hij:i≠j):Meet (at' (histS s) i).reads (at' (histS s) j).writes↔readT' ((allS s).getD i default) ((allS s).getD j default):=by
 rw [at_hist hi,at_hist hj,at_acc]
 show Meet (readsOf (allS s) i) _↔_
 have oi:=(hok.tx _ (getD_allS hi)).1
 have lg:∀ q,q<(allS s).length->∀ w ∈ ((allS s).getD q default).log,0<=w.key.2/\w.key.2<=1073741824:=fun q hq w hw=>by
  have:=((hok.tx _ (getD_allS hq)).1.log w hw).2
  show 0<=w.row/\w.row<=_;omega
 have hmr:∀ x,x ∈ readsOf (allS s) i↔x ∈ ((allS s).getD i default).rows.map itemI\/∃ q,q<(allS s).length/\q≠i/\x ∈ seenOf ((allS s).getD i default) ((allS s).getD q default):=fun x=>by
  simp only [readsOf,mem_ascL,List.mem_append,List.mem_flatMap,List.mem_range]
  refine or_congr Iff.rfl ⟨?_,?_⟩
  . rintro ⟨q,hq,hx⟩
    by_cases e:q=i
    . rw [if_pos e] at hx;cases hx
    . rw [if_neg e] at hx;exact ⟨q,hq,e,hx⟩
  . rintro ⟨q,hq,e,hx⟩
    exact ⟨q,hq,by rw [if_neg e];exact hx⟩
 constructor
 . rintro ⟨x,h1,h2⟩
   obtain ⟨w,hw,rfl⟩:=mem_writesT.1 h2
   refine ⟨w,hw,?_⟩
   rcases (hmr _).1 h1 with h | ⟨q,hq,_,h⟩
   . obtain ⟨k,hk,e⟩:=List.mem_map.1 h
     have hr:=(oi.rows k hk).2
     have:=item_inj ⟨hr.1,hr.2⟩ (lg j hj w hw) e
     rw [<- this];exact .inl hk
   . obtain ⟨w',hw',ht,e⟩:=mem_seen h
     have:=item_inj (lg j hj w hw) (lg q hq w' hw') e
     have e2:w.tab=w'.tab:=congrArg Prod.fst this
     rw [e2];exact .inr ht
 . rintro ⟨w,hw,h⟩
   rcases h with h | h
   . exact ⟨itemI w.key,(hmr _).2 (.inl (List.mem_map.2 ⟨w.key,h,rfl⟩)),mem_writesT.2 ⟨w,hw,rfl⟩⟩
   . obtain ⟨w',hw',hx⟩:=seen_some hw h
     exact ⟨itemI w'.key,(hmr _).2 (.inr ⟨j,hj,fun e=>hij e.symm,hx⟩),mem_writesT.2 ⟨w',hw',rfl⟩⟩
theorem RelT.readOf {a b:TX} {u v:UX} (ha:RelT a u) (hb:RelT b v) (hk:∀ w ∈ v.log,Sm w.key):readT' a b↔readU u v:=by
 unfold readT' readU
 rw [hb.log]
 rw [hb.log] at hk
 constructor
 . rintro ⟨w,hw,h⟩
   have:=hk (strip w) (List.mem_map.2 ⟨w,hw,rfl⟩)
   exact ⟨strip w,List.mem_map.2 ⟨w,hw,rfl⟩,(ha.reads w.key this).1 h⟩
 . rintro ⟨x,hx,h⟩
   have hkx:=hk x hx
   obtain ⟨w,hw,rfl⟩:=List.mem_map.1 hx
   exact ⟨w,hw,(ha.reads w.key hkx).2 h⟩
structure Corr (all:List UX) (s:TS) (kp:List (Int × TX)) (i j:Nat):Prop where
 hi:i<(allS s).length
 hj:j<all.length
 rel:RelT ((allS s).getD i default) (all.getD j default)
 num:(all.getD j default).num=((kp++s.act).getD i default).1
section
variable {all:List UX} {s:TS} {kp:List (Int × TX)} {N:Nat}
theorem Gh.allS (h:Gh all s kp):Go.Proofs.Try.allS s=(kp++s.act).map (·.2):=by rw [List.map_append,h.kept];rfl
theorem getD_mem' {α:Type} [Inhabited α] {l:List α} {i:Nat} (h:i<l.length):l.getD i default ∈ l:=by simp [h]
theorem map_getD {l:List (Int × TX)} {i:Nat} (h:i<l.length):(l.map (·.2)).getD i default=(l.getD i default).2:=by
 rw [List.getD_eq_getElem?_getD,List.getD_eq_getElem?_getD,List.getElem?_map,List.getElem?_eq_getElem h];rfl
theorem mem_getD' {α:Type} [Inhabited α] {l:List α} {x:α} (h:x ∈ l):∃ i,i<l.length/\l.getD i default=x:=by
 obtain ⟨i,hi,e⟩:=List.getElem_of_mem h
 exact ⟨i,hi,by simp [hi,e]⟩
theorem Gh.corr (h:Gh all s kp) {i:Nat} (hi:i<(Go.Proofs.Try.allS s).length):∃ j,Corr all s kp i j:=by
 have hl:i<(kp++s.act).length:=by rw [h.allS,List.length_map] at hi;exact hi
 have e:(Go.Proofs.Try.allS s).getD i default=((kp++s.act).getD i default).2:=by rw [h.allS];exact map_getD hl
 obtain ⟨u,hu,e2,hr⟩:=h.rel _ (getD_mem' hl)
 obtain ⟨j,hj,rfl⟩:=mem_getD' hu
 exact ⟨j,hi,hj,by rw [e];exact hr,e2⟩
theorem Gh.corr' (h:Gh all s kp) {j:Nat} (hj:j<all.length):Forg s (all.getD j default)\/∃ i,Corr all s kp i j:=by
 rcases h.forg _ (getD_mem' hj) with ⟨p,hp,e⟩ | hf
 . obtain ⟨i,hi,rfl⟩:=mem_getD' hp
   have hi':i<(Go.Proofs.Try.allS s).length:=by rw [h.allS,List.length_map];exact hi
   have e3:(Go.Proofs.Try.allS s).getD i default=((kp++s.act).getD i default).2:=by rw [h.allS];exact map_getD hi
   obtain ⟨u,hu,e2,hr⟩:=h.rel _ hp
   have:=num_inj h.nums hu (getD_mem' hj) (e2.trans e)
   subst this
   exact .inr ⟨i,hi',hj,by rw [e3];exact hr,e2⟩
 . exact .inl hf
theorem nodup_getD {α β:Type} [Inhabited α] {f:α->β} {l:List α} (hn:(l.map f).Nodup) {i j:Nat} (hi:i<l.length) (hj:j<l.length) (e:f (l.getD i default)=f (l.getD j default)):i=j:=by
 refine (List.getElem_inj (xs:=l.map f) (h₀:=by simpa using hi) (h₁:=by simpa using hj) hn).1 ?_
 simpa [hi,hj] using e
theorem Corr.inj (h:Gh all s kp) {i j i' j':Nat} (c:Corr all s kp i j) (c':Corr all s kp i' j'):i=i'↔j=j':=by
 constructor
 . rintro rfl
   exact nodup_getD h.nums c.hj c'.hj (c.num.trans c'.num.symm)
 . rintro rfl
   have hl:∀ {i},i<(Go.Proofs.Try.allS s).length->i<(kp++s.act).length:=fun hi=>by rw [h.allS,List.length_map] at hi;exact hi
   exact nodup_getD (f:=fun p:Int × TX=>p.1) h.ids (hl c.hi) (hl c'.hi) (c.num.symm.trans c'.num)
theorem with_f {h:List Acc} {n:Nat} {S:Int} (hn:n<h.length) (i:Nat):(at' (withS h n S) i).snap=(at' h i).snap/\(at' (withS h n S) i).reads=(at' h i).reads/\(at' (withS h n S) i).writes=(at' h i).writes/\((at' (withS h n S) i).done=true↔i=n\/(at' h i).done=true)/\(at' (withS h n S) i).stamp=if i=n then S else (at' h i).stamp:=by
 by_cases e:i=n
 . subst e;rw [at_with hn];simp
 . rw [at_with_ne e];simp [e]
theorem corr_f {i j:Nat} (c:Corr all s kp i j):(at' (histS s) i).snap=(at' (fullS all) j).snap/\(at' (histS s) i).done=(at' (fullS all) j).done/\(at' (histS s) i).stamp=(at' (fullS all) j).stamp/\(at' (histS s) i).mode=(at' (fullS all) j).mode/\(0<(at' (histS s) i).writes.length↔0<(at' (fullS all) j).writes.length):=by
 rw [at_hist c.hi,at_full c.hj]
 refine ⟨c.rel.snap.symm,c.rel.done.symm,c.rel.stamp.symm,c.rel.mode.symm,?_⟩
 rw [at_acc,writesT_pos,fullW_nil,ne_eq,ne_eq,c.rel.nil]
theorem corr_meet {i j i' j':Nat} (h:Gh all s kp) (hok:OkS N s) (hij:i≠i') (c:Corr all s kp i j) (c':Corr all s kp i' j'):Meet (at' (histS s) i).reads (at' (histS s) i').writes↔Meet (at' (fullS all) j).reads (at' (fullS all) j').writes:=by
 rw [meet_hist hok c.hi c'.hi hij,at_full c.hj,at_full c'.hj,meet_full h.ok (getD_mem' c.hj) (getD_mem' c'.hj)]
 exact c.rel.readOf c'.rel (h.ok _ (getD_mem' c'.hj)).keys
theorem corr_anti (h:Gh all s kp) (hok:OkS N s) {n m i j i' j':Nat} {S:Int} (cn:Corr all s kp n m) (c:Corr all s kp i j) (c':Corr all s kp i' j'):Anti (withS (histS s) n S) i i'↔Anti (withS (fullS all) m S) j j':=by
 have hn:n<(histS s).length:=by rw [histS_len];exact cn.hi
 have hm:m<(fullS all).length:=by rw [fullS_len];exact cn.hj
 obtain ⟨a1,a2,a3,a4,a5⟩:=with_f (S:=S) hn i
 obtain ⟨b1,b2,b3,b4,b5⟩:=with_f (S:=S) hn i'
 obtain ⟨a1',a2',a3',a4',a5'⟩:=with_f (S:=S) hm j
 obtain ⟨b1',b2',b3',b4',b5'⟩:=with_f (S:=S) hm j'
 obtain ⟨p1,p2,p3,p4,p5⟩:=corr_f c
 obtain ⟨q1,q2,q3,q4,q5⟩:=corr_f c'
 have e1:=c.inj h c'
 have e2:=c.inj h cn
 have e3:=c'.inj h cn
 unfold Anti AntiE
 rw [a4,b4,a2,b3,a1,b5,a4',b4',a2',b3',a1',b5',<- p1,<- p2,<- q2,<- q3]
 simp only [ne_eq,<- e1,<- e2,<- e3]
 by_cases hij:i=i'
 . simp [hij]
 . rw [corr_meet h hok hij c c']
theorem corr_dang (h:Gh all s kp) (hok:OkS N s) {n m:Nat} {S:Int} (cn:Corr all s kp n m) {a b c a' b' c':Nat} (ca:Corr all s kp a a') (cb:Corr all s kp b b') (cc:Corr all s kp c c'):Dang (withS (histS s) n S) a b c↔Dang (withS (fullS all) m S) a' b' c':=by
 have hn:n<(histS s).length:=by rw [histS_len];exact cn.hi
 have hm:m<(fullS all).length:=by rw [fullS_len];exact cn.hj
 have s1:=fun i=>(with_f (S:=S) hn i)
 have s2:=fun i=>(with_f (S:=S) hm i)
 obtain ⟨p1,p2,p3,p4,p5⟩:=corr_f ca
 obtain ⟨q1,q2,q3,q4,q5⟩:=corr_f cb
 obtain ⟨r1,r2,r3,r4,r5⟩:=corr_f cc
 have e1:=ca.inj h cc
 have e2:=ca.inj h cn
 have e3:=cb.inj h cn
 have e4:=cc.inj h cn
 unfold Dang
 rw [corr_anti h hok cn ca cb,corr_anti h hok cn cb cc,(s1 c).2.2.2.2,(s1 b).2.2.2.2,(s1 a).2.2.2.2,(s1 a).2.2.1,(s1 a).1,(s2 c').2.2.2.2,(s2 b').2.2.2.2,(s2 a').2.2.2.2,(s2 a').2.2.1,(s2 a').1,<- p1,<- p3,<- q3,<- r3,p5]
 simp only [<- e1,<- e2,<- e3,<- e4]
 have e0:((at' (histS s) a).writes.length=0)↔((at' (fullS all) a').writes.length=0):=by omega
 rw [e0]
theorem dang_kept (h:Gh all s kp) (hok:OkS N s) (hiv:IvS s) {tx:Int} {t:TX} (hg:getT s tx=some t) {m:Nat} (hm:m<all.length) (hmt:RelT t (all.getD m default)) (hnf:¬ (all.getD m default).done=true) {S:Int} (hS:S=if t.log=[] then 0 else s.last+1) {a b c:Nat} (hd:Dang (withS (fullS all) m S) a b c) (hmm:a=m\/b=m\/c=m) :
 (∃ i,Corr all s kp i a)/\(∃ i,Corr all s kp i b)/\∃ i,Corr all s kp i c:=by
 have hml:m<(fullS all).length:=by rw [fullS_len];exact hm
 have s2:=fun i=>(with_f (S:=S) hml i)
 have hsn:=leastA_snap s (getT_pair hg)
 simp only at hsn
 have hlk:=leastK_le s
 have hsh:=hiv.sh
 have hl:∀ {i},(at' (withS (fullS all) m S) i).done=true->i<all.length:=fun hd=>by
  have:=done_lt hd
  rw [withS_len,fullS_len] at this;exact this
 have la:=hl hd.1.2.1
 have lb:=hl hd.1.2.2.1
 have lc:=hl hd.2.1.2.2.1
 have key:∀ {i},i<all.length->(i≠m->leastK s<(at' (fullS all) i).stamp\/((at' (fullS all) i).stamp=0/\leastK s<(at' (fullS all) i).snap))->∃ k,Corr all s kp k i:=fun {i} hi hx=>by
  by_cases e:i=m
  . subst e
    rcases h.corr' hi with hf | hc
    . exact absurd hf.1 hnf
    . exact hc
  . rcases h.corr' hi with hf | hc
    . have:=hx e
      rw [at_full hi] at this
      obtain ⟨f1,f2,f3⟩:=hf
      simp only [fullA] at this
      omega
    . exact hc
 have hsm:(at' (fullS all) m).snap=t.snap:=by rw [at_full hm];exact hmt.snap
 have hst:∀ {i},i<all.length->(at' (fullS all) i).stamp<=s.last:=fun {i} hi=>by
  rw [at_full hi]
  show (all.getD i default).stamp<=_
  have hu:=h.ok _ (getD_mem' hi)
  by_cases hw:(all.getD i default).done=true/\(all.getD i default).log≠[]
  . exact (hu.wr hw.1 hw.2).2
  . rw [hu.nw hw];omega
 obtain ⟨⟨n1,d1,d2,m1,k1⟩,⟨n2,_,d3,m2,k2⟩,k3,k4⟩:=hd
 rw [(s2 b).2.2.1] at m1
 rw [(s2 c).2.2.1] at m2
 rw [(s2 a).1,(s2 b).2.2.2.2] at k1
 rw [(s2 b).1,(s2 c).2.2.2.2] at k2
 rw [(s2 c).2.2.2.2,(s2 b).2.2.2.2] at k3
 rw [(s2 c).2.2.2.2,(s2 a).2.2.2.2,(s2 a).2.2.1,(s2 a).1] at k4
 have wb:0<(at' (fullS all) b).writes.length:=m1.right
 have wc:0<(at' (fullS all) c).writes.length:=m2.right
 have hSw:∀ {i},i=m->0<(at' (fullS all) i).writes.length->S=s.last+1:=fun e hw=>by
  subst e
  rw [at_full hm,fullW_nil,ne_eq,hmt.nil] at hw
  rw [hS,if_neg hw]
 -- c is not the one that commits
 have hcm:c≠m:=fun e=>by
  have h1:=hSw e wc
  have h2:=hst lb
  rw [if_pos e] at k3
  by_cases eb:b=m
  . exact n2 (eb.trans e.symm)
  . rw [if_neg eb] at k3;omega
 rw [if_neg hcm] at k2 k3 k4
 rcases hmm with rfl | rfl | h0
 · -- a commits
   have hba:b≠a:=fun e=>n1 e.symm
   rw [if_neg hba] at k1 k3
   rw [hsm] at k1
   have kb:=key lb fun _=>.inl (by omega)
   obtain ⟨kbi,cb⟩:=kb
   have hbs:leastK s<=(at' (fullS all) b).snap:=by
    have hbm:(allS s).getD kbi default ∈ allS s:=getD_mem' cb.hi
    have hbst:=(corr_f cb).2.2.1
    rw [at_hist cb.hi] at hbst
    have hbst2:((allS s).getD kbi default).stamp=(at' (fullS all) b).stamp:=hbst
    have hbsn:((allS s).getD kbi default).snap=(at' (fullS all) b).snap:=by
     have:=(corr_f cb).1
     rw [at_hist cb.hi] at this;exact this
    rw [<- hbsn]
    rcases mem_allS.1 hbm with hk | ⟨p,hp,e⟩
    . exact leastK_snap s hk (by omega)
    . rw [<- e];have:=leastA_snap s hp;omega
   exact ⟨key la fun e=>absurd rfl e,⟨kbi,cb⟩,key lc fun _=>.inl (by omega)⟩
 · -- b commits
   rw [hsm] at k2
   refine ⟨key la fun e=>?_,key lb fun e=>absurd rfl e,key lc fun _=>.inl (by omega)⟩
   rw [if_neg e] at k4
   rcases k4 with k4 | ⟨_,k4⟩ | ⟨hw0,k4⟩
   . subst k4;exact .inl (by omega)
   . exact .inl (by omega)
   . right
     refine ⟨?_,by omega⟩
     rw [at_full la] at hw0 ⊢
     refine (h.ok _ (getD_mem' la)).nw fun hx=>?_
     have:=(fullW_nil (all:=all)).2 hx.2
     omega
 . exact absurd h0 hcm
theorem dangW_iff (h:Gh all s kp) (hok:OkS N s) (hiv:IvS s) {tx:Int} {t:TX} (hg:getT s tx=some t) {m:Nat} (cn:Corr all s kp (idxT s tx) m) (hs:stampS (histS s) (idxT s tx)=stampS (fullS all) m):DangW (histS s) (idxT s tx)↔DangW (fullS all) m:=by
 obtain ⟨i1,i2⟩:=idxT_at hg
 have hS:=stamp_at hiv hg
 have hr:=cn.rel
 rw [i2] at hr
 have hnd:¬ (all.getD m default).done=true:=by
  rw [hr.done,(hiv.act _ (getT_pair hg)).1];decide
 unfold DangW
 rw [<- hs]
 constructor
 . rintro ⟨a,b,c,ha,hb,hc,hd,hm⟩
   rw [histS_len] at ha hb hc
   obtain ⟨a',ca⟩:=h.corr ha
   obtain ⟨b',cb⟩:=h.corr hb
   obtain ⟨c',cc⟩:=h.corr hc
   refine ⟨a',b',c',by rw [fullS_len];exact ca.hj,by rw [fullS_len];exact cb.hj,by rw [fullS_len];exact cc.hj,(corr_dang h hok cn ca cb cc).1 hd,?_⟩
   rw [<- ca.inj h cn,<- cb.inj h cn,<- cc.inj h cn];exact hm
 . rintro ⟨a,b,c,ha,hb,hc,hd,hm⟩
   obtain ⟨⟨a',ca⟩,⟨b',cb⟩,⟨c',cc⟩⟩:=dang_kept h hok hiv hg cn.hj hr hnd hS hd hm
   refine ⟨a',b',c',by rw [histS_len];exact ca.hi,by rw [histS_len];exact cb.hi,by rw [histS_len];exact cc.hi,(corr_dang h hok cn ca cb cc).2 hd,?_⟩
   rw [ca.inj h cn,cb.inj h cn,cc.inj h cn];exact hm
end
def smItems:List Int:=[0,1,2].flatMap fun t=>[1,2,3,4,5,6,7,8].map fun r=>t * 2147483648+r
theorem mem_smItems {k:Int × Int} (h:Sm k):itemI k ∈ smItems:=by
 obtain ⟨⟨h1,h2⟩,h3,h4⟩:=h
 have ht:k.1 ∈ [(0:Int),1,2]:=by simp;omega
 have hr:k.2 ∈ [(1:Int),2,3,4,5,6,7,8]:=by simp;omega
 exact List.mem_flatMap.2 ⟨k.1,ht,List.mem_map.2 ⟨k.2,hr,rfl⟩⟩
theorem asc_nodup {l:List Int} (h:l.Pairwise (· < ·)):l.Nodup:=h.imp fun {a b} h e=>by omega
section
variable {all:List UX} {s:TS} {kp:List (Int × TX)} {N:Nat}
theorem full_len {u:UX} (h:Gh all s kp) (hu:u ∈ all):(fullA all u).reads.length<=64/\(fullA all u).writes.length<=64:=by
 have hl:smItems.length=24:=rfl
 constructor
 . have:=nodup_length_le (asc_nodup (ascL_asc _):(fullA all u).reads.Nodup) (m:=smItems) fun x hx=>by
    rcases mem_fullR.1 hx with hr | ⟨v,hv,w,hw,_,rfl⟩
    . obtain ⟨k,hk,rfl⟩:=(h.ok u hu).rows x hr
      exact mem_smItems hk
    . exact mem_smItems ((h.ok v hv).keys w hw)
   omega
 . have:=nodup_length_le (asc_nodup (ascL_asc _):(fullA all u).writes.Nodup) (m:=smItems) fun x hx=>by
    obtain ⟨w,hw,rfl⟩:=mem_fullW.1 hx
    exact mem_smItems ((h.ok u hu).keys w hw)
   omega
theorem full_writer {u:UX}:(fullA all u).writer=true↔u.done=true/\u.log≠[]:=by
 rw [Acc.writer,Bool.and_eq_true,decide_eq_true_eq,fullW_nil];rfl
theorem meetW_full (h:Gh all s kp) {u v:UX} (hu:u ∈ all) (hv:v ∈ all):Meet (fullA all u).writes (fullA all v).writes↔meetU u v:=by
 constructor
 . rintro ⟨x,h1,h2⟩
   obtain ⟨w,hw,rfl⟩:=mem_fullW.1 h1
   obtain ⟨z,hz,e⟩:=mem_fullW.1 h2
   exact ⟨w,hw,z,hz,(item_inj ((h.ok v hv).keys z hz).rng ((h.ok u hu).keys w hw).rng e).symm⟩
 . rintro ⟨w,hw,z,hz,e⟩
   exact ⟨itemI w.key,mem_fullW.2 ⟨w,hw,rfl⟩,mem_fullW.2 ⟨z,hz,by rw [e]⟩⟩
theorem full_check (h:Gh all s kp) (hiv:IvS s) (hn:all.length<=100):checkS (fullS all)=0:=by
 have hsh:=hiv.sh
 have form:∀ u ∈ all,(fullA all u).Formed:=fun u hu=>by
  have ho:=h.ok u hu
  refine ⟨ho.mode.1,ho.mode.2,ho.snap.1,?_,asc_of (ascL_asc _),asc_of (ascL_asc _),?_,?_,?_⟩
  . have:=ho.snap.2;show u.snap<=_;omega
  . rintro ⟨h1,h2⟩
    exact fullW_nil.1 h2 (ho.ro h1)
  . intro hw
    rw [full_writer] at hw
    have:=ho.wr hw.1 hw.2
    show u.snap<u.stamp/\u.stamp<=_
    omega
  . intro hw
    rw [<- Bool.not_eq_true,full_writer] at hw
    exact ho.nw hw
 have numne:∀ {i j},i<all.length->j<all.length->i≠j->(all.getD i default).num≠(all.getD j default).num:=fun hi hj hij e=>hij (nodup_getD h.nums hi hj e)
 rw [check_zero]
 refine ⟨?_,?_,?_⟩
 . rintro (hb | ⟨i,hi,hb⟩)
   . rw [fullS_len] at hb;omega
   . rw [fullS_len] at hi
     rw [at_full hi] at hb
     have:=full_len h (getD_mem' hi)
     omega
 . rintro (⟨i,hi,hb⟩ | ⟨i,j,hij,hj,e,hp⟩)
   . rw [fullS_len] at hi
     rw [at_full hi] at hb
     exact hb (form _ (getD_mem' hi))
   . rw [fullS_len] at hj
     have hi:i<all.length:=by omega
     rw [at_full hj,at_full hi] at e
     rw [at_full hj] at hp
     have w1:(fullA all (all.getD j default)).writer=true:=Classical.byContradiction fun hn=>by
      have:=(form _ (getD_mem' hj)).2.2.2.2.2.2.2.2 (by simpa using hn);omega
     have w2:(fullA all (all.getD i default)).writer=true:=Classical.byContradiction fun hn=>by
      have:=(form _ (getD_mem' hi)).2.2.2.2.2.2.2.2 (by simpa using hn);omega
     rw [full_writer] at w1 w2
     exact (h.sep _ (getD_mem' hi) _ (getD_mem' hj) w2.1 w1.1 w2.2 w1.2 (numne hi hj (by omega))).1 e
 . rintro ⟨i,j,hij,hi,hc⟩
   rw [fullS_len] at hi
   have hj:j<all.length:=by omega
   rw [at_full hi,at_full hj] at hc
   obtain ⟨w1,w2,c1,c2,hm⟩:=hc
   rw [full_writer] at w1 w2
   have m1:=(meetW_full h (getD_mem' hj) (getD_mem' hi)).1 hm
   have m2:meetU (all.getD i default) (all.getD j default):=by
    obtain ⟨w,hw,z,hz,e⟩:=m1;exact ⟨z,hz,w,hw,e.symm⟩
   have s1:=h.sep _ (getD_mem' hj) _ (getD_mem' hi) w2.1 w1.1 w2.2 w1.2 (numne hj hi (by omega))
   have s2:=h.sep _ (getD_mem' hi) _ (getD_mem' hj) w1.1 w2.1 w1.2 w2.2 (numne hi hj (by omega))
   have c1':(all.getD i default).snap<(all.getD j default).stamp:=c1
   have c2':(all.getD j default).snap<(all.getD i default).stamp:=c2
   have d1:=s1.1
   by_cases hlt:(all.getD j default).stamp<(all.getD i default).stamp
   . have:=s1.2 hlt m1;omega
   . have:=s2.2 (by omega) m2;omega
theorem full_last (h:Gh all s kp) (hiv:IvS s) (ha:s.act≠[]):lastS (fullS all)=s.last:=by
 have hsh:=hiv.sh
 refine Int.le_antisymm (lastTo_ub (by omega) (fun k hk=>?_) _ (Nat.le_refl _)) ?_
 . rw [fullS_len] at hk
   rw [at_full hk]
   have ho:=h.ok _ (getD_mem' hk)
   have:=ho.snap
   show (all.getD k default).stamp<=_/\(all.getD k default).snap<=_
   refine ⟨?_,by omega⟩
   by_cases hw:(all.getD k default).done=true/\(all.getD k default).log≠[]
   . exact (ho.wr hw.1 hw.2).2
   . rw [ho.nw hw];omega
 . obtain ⟨p,l,e⟩:=List.exists_cons_of_ne_nil ha
   have hp:p ∈ s.act:=by rw [e];simp
   have key:∀ u ∈ all,u.stamp<=lastS (fullS all)/\u.snap<=lastS (fullS all):=fun u hu=>by
    obtain ⟨k,hk,rfl⟩:=mem_getD' hu
    have:=lastS_ge (h:=fullS all) (k:=k) (by rw [fullS_len];exact hk)
    rw [at_full hk] at this
    exact this
   rcases hiv.topA p hp with h1 | ⟨t,ht,_,h1⟩
   . obtain ⟨u,hu,_,hr⟩:=h.rel p (List.mem_append_right _ hp)
     rw [<- h1,<- hr.snap];exact (key u hu).2
   . rw [<- h.kept] at ht
     obtain ⟨q,hq,rfl⟩:=List.mem_map.1 ht
     obtain ⟨u,hu,_,hr⟩:=h.rel q (List.mem_append_left _ hq)
     rw [<- h1,<- hr.stamp];exact (key u hu).1
theorem Gh.idx_num (h:Gh all s kp) {tx:Int} {t:TX} (hg:getT s tx=some t):((kp++s.act).getD (idxT s tx) default).1=tx:=by
 have hkl:kp.length=s.kept.length:=by rw [<- h.kept];simp
 have hg':=hg
 simp only [getT,Option.map_eq_some_iff] at hg'
 obtain ⟨p,hp,rfl⟩:=hg'
 have he:s.act[s.act.findIdx (fun p=>decide (p.1=tx))]?=some p:=by
  rw [<- hp,List.find?_eq_getElem?_findIdx]
 have h1:=List.find?_some hp
 simp only [decide_eq_true_eq] at h1
 unfold idxT
 rw [List.getD_eq_getElem?_getD,List.getElem?_append_right (by omega),hkl]
 simp [he,h1]
theorem Gh.corr_at (h:Gh all s kp) (hiv:IvS s) {m:Nat} (hm:m<all.length) (hd:(all.getD m default).done=false):∃ t,getT s (all.getD m default).num=some t/\Corr all s kp (idxT s (all.getD m default).num) m:=by
 rcases h.forg _ (getD_mem' hm) with ⟨p,hp,e⟩ | hf
 . obtain ⟨u,hu,e2,hr⟩:=h.rel p hp
   have:=num_inj h.nums hu (getD_mem' hm) (e2.trans e)
   subst this
   have hpa:p ∈ s.act:=by
    rcases List.mem_append.1 hp with hk | hk
    . have:p.2 ∈ s.kept:=by rw [<- h.kept];exact List.mem_map.2 ⟨p,hk,rfl⟩
      rw [hr.done,(hiv.kept _ this).1] at hd;cases hd
    . exact hk
   have hg:getT s (all.getD m default).num=some p.2:=by rw [<- e];exact hiv.getT hpa
   obtain ⟨i1,i2⟩:=idxT_at hg
   exact ⟨p.2,hg,i1,hm,by rw [i2];exact hr,(h.idx_num hg).symm⟩
 . rw [hf.1] at hd;cases hd
theorem corr_stamp (h:Gh all s kp) (hiv:IvS s) {tx:Int} {t:TX} (hg:getT s tx=some t) {m:Nat} (cn:Corr all s kp (idxT s tx) m):stampS (histS s) (idxT s tx)=stampS (fullS all) m:=by
 have ha:s.act≠[]:=fun e=>by have:=getT_pair hg;rw [e] at this;cases this
 unfold stampS
 rw [iv_last hiv ha,full_last h hiv ha]
 have:=(corr_f cn).2.2.2.2
 by_cases hw:0<(at' (histS s) (idxT s tx)).writes.length
 . rw [if_pos hw,if_pos (this.1 hw)]
 . rw [if_neg hw,if_neg fun h=>hw (this.2 h)]
theorem Gh.none (h:Gh all s kp) (hiv:IvS s) {tx:Int} (hno:∀ u ∈ all,u.num=tx->u.done=true):getT s tx=none:=by
 cases hg:getT s tx with
 | none=>rfl
 | some t =>
   obtain ⟨u,hu,e,hr⟩:=h.act_rel hg
   have:=hno u hu e
   rw [hr.done,(hiv.act _ (getT_pair hg)).1] at this;cases this
end
def stepU (c:CL) (got:RS) (u:UX):UX :=
 if c.kind=1 then (if c.b=0 then { u with whole:=u.whole++[c.a] } else { u with rows:=u.rows++[itemI (c.a,c.b)] })
 else if c.kind=2 then { u with log:=u.log++[⟨c.a,c.b,false,[]⟩] }
 else if c.kind=4 then { u with log:=u.log.take c.a.toNat }
 else if c.kind=5 then { u with done:=decide (got.e=0),stamp:=got.n }
 else u
def begunS (all:List UX) (c:CL) (got:RS) (shown:Int):List UX :=
 if got.e≠0/\c.kind≠5 then all
 else if c.kind=0 then all++[⟨got.n,c.a,shown,false,0,[],[],[]⟩]
 else if (c.kind=5/\got.e≠0)\/c.kind=6 then all.filter fun u=>decide (u.num≠c.tx)
 else mapN all c.tx (stepU c got)
def smKeys:List (Int × Int):=[(0:Int),1,2].flatMap fun t=>[(1:Int),2,3,4,5,6,7,8].map fun r=>(t,r)
theorem mem_smKeys {k:Int × Int} (h:Sm k):k ∈ smKeys:=by
 obtain ⟨⟨h1,h2⟩,h3,h4⟩:=h
 have ht:k.1 ∈ [(0:Int),1,2]:=by simp;omega
 have hr:k.2 ∈ [(1:Int),2,3,4,5,6,7,8]:=by simp;omega
 exact List.mem_flatMap.2 ⟨k.1,ht,List.mem_map.2 ⟨k.2,hr,rfl⟩⟩
section
variable {all:List UX} {s:TS} {kp:List (Int × TX)} {N:Nat}
theorem mapN_id {tx:Int} {f:UX->UX} (hf:∀ u,f u=u):mapN all tx f=all:=by
 unfold mapN
 refine (List.map_congr_left fun u _=>?_).trans (List.map_id _)
 by_cases h:u.num=tx <;> simp [h,hf]
theorem rel_read {t:TX} {u:UX} (hr:RelT t u) {tab row:Int} (h1:0<=tab/\tab<=2) (h2:0<=row/\row<=8):RelT (readT t tab row) (if row=0 then { u with whole:=u.whole++[tab] } else { u with rows:=u.rows++[itemI (tab,row)] }):=by
 have hin:∀ k,Sm k->0<row->(itemI k=itemI (tab,row)↔k=(tab,row)):=fun k hk hp=>⟨fun e=>item_inj hk.rng ⟨h2.1,by show row<=_;omega⟩ e,fun e=>by rw [e]⟩
 unfold readT
 by_cases hn:t.whole.contains tab=true\/t.rows.contains (tab,row)=true
 . rw [if_pos hn]
   simp only [List.contains_iff_mem] at hn
   by_cases h0:row=0
   . rw [if_pos h0]
     refine ⟨hr.mode,hr.snap,hr.done,hr.stamp,hr.log,fun k hk=>?_,hr.rowsT,hr.nodup⟩
     have:=hr.reads k hk
     simp only [List.mem_append,List.mem_singleton]
     rw [this]
     constructor
     . rintro (h | h);exact .inl h;exact .inr (.inl h)
     . rintro (h | h | h)
       . exact .inl h
       . exact .inr h
       . rw [<- this]
         rcases hn with hn | hn
         . rw [h];exact .inr hn
         . have:=(hr.rowsT _ hn).2;simp only at this;omega
   . rw [if_neg h0]
     refine ⟨hr.mode,hr.snap,hr.done,hr.stamp,hr.log,fun k hk=>?_,hr.rowsT,hr.nodup⟩
     have:=hr.reads k hk
     simp only [List.mem_append,List.mem_singleton,hin k hk (by omega)]
     rw [this]
     constructor
     . rintro (h | h);exact .inl (.inl h);exact .inr h
     . rintro ((h | h) | h)
       . exact .inl h
       . rw [<- this,h]
         rcases hn with hn | hn
         . exact .inr hn
         . exact .inl hn
       . exact .inr h
 . rw [if_neg hn]
   simp only [List.contains_iff_mem,not_or] at hn
   by_cases hc:0<row/\t.rows.length<24
   . rw [if_pos hc,if_neg (by omega)]
     refine ⟨hr.mode,hr.snap,hr.done,hr.stamp,hr.log,fun k hk=>?_,fun k hk=>?_,List.nodup_append.2 ⟨hr.nodup,by simp,fun a ha b hb e=>?_⟩⟩
     . have:=hr.reads k hk
       simp only [List.mem_append,List.mem_singleton,hin k hk hc.1]
       constructor
       . rintro ((h | h) | h)
         . rcases this.1 (.inl h) with h | h
           . exact .inl (.inl h)
           . exact .inr h
         . exact .inl (.inr h)
         . rcases this.1 (.inr h) with h | h
           . exact .inl (.inl h)
           . exact .inr h
       . rintro ((h | h) | h)
         . rcases this.2 (.inl h) with h | h
           . exact .inl (.inl h)
           . exact .inr h
         . exact .inl (.inr h)
         . rcases this.2 (.inr h) with h | h
           . exact .inl (.inl h)
           . exact .inr h
     . rcases List.mem_append.1 hk with hk | hk
       . exact hr.rowsT k hk
       . rw [List.mem_singleton.1 hk];exact ⟨h1,by simp only;omega⟩
     . rw [List.mem_singleton.1 hb] at e
       exact hn.2 (by rw [<- e];exact ha)
   . rw [if_neg hc]
     by_cases h0:row=0
     . rw [if_pos h0]
       refine ⟨hr.mode,hr.snap,hr.done,hr.stamp,hr.log,fun k hk=>?_,fun k hk=>hr.rowsT k (List.mem_filter.1 hk).1,hr.nodup.sublist List.filter_sublist⟩
       have:=hr.reads k hk
       simp only [List.mem_append,List.mem_singleton,List.mem_filter,decide_eq_true_eq]
       by_cases hkt:k.1=tab
       . simp [hkt]
       . constructor
         . rintro (h | h | h)
           . rcases this.1 (.inl h.1) with h | h
             . exact .inl h
             . exact .inr (.inl h)
           . rcases this.1 (.inr h) with h | h
             . exact .inl h
             . exact .inr (.inl h)
           . exact absurd h hkt
         . rintro (h | h | h)
           . rcases this.2 (.inl h) with h | h
             . exact .inl ⟨h,hkt⟩
             . exact .inr (.inl h)
           . rcases this.2 (.inr h) with h | h
             . exact .inl ⟨h,hkt⟩
             . exact .inr (.inl h)
           . exact absurd h hkt
     . exfalso
       have hle:=nodup_length_le (l:=t.rows++[(tab,row)]) (m:=smKeys) (List.nodup_append.2 ⟨hr.nodup,by simp,fun a ha b hb e=>by
        rw [List.mem_singleton.1 hb] at e
        exact hn.2 (by rw [<- e];exact ha)⟩) fun k hk=>by
         rcases List.mem_append.1 hk with hk | hk
         . exact mem_smKeys (hr.rowsT k hk)
         . rw [List.mem_singleton.1 hk];exact mem_smKeys ⟨h1,by simp only;omega⟩
       have h24:smKeys.length=24:=rfl
       rw [List.length_append,List.length_singleton,h24] at hle
       omega
theorem Gh.step (h:Gh all s kp) (hok:OkS N s) (hiv:IvS s) {c:CL} (hc:okC c) (ha:c.kind=0\/c.kind=7\/∃ t,getT s c.tx=some t):∃ kp',Gh (begunS all c (doS s c).1 s.shown) (doS s c).2 kp':=by
 obtain ⟨⟨hk0,hk7⟩,hab⟩:=hc
 by_cases k0:c.kind=0
 . have hd:doS s c=beginS s c.a:=by unfold doS;rw [if_pos k0]
   rw [hd]
   unfold beginS
   split
   . exact ⟨kp,by unfold begunS;rw [if_pos ⟨by simp,by omega⟩];exact h⟩
   . split
     . exact ⟨kp,by unfold begunS;rw [if_pos ⟨by simp,by omega⟩];exact h⟩
     . rename_i m1 m2
       unfold begunS
       rw [if_neg (by simp),if_pos k0]
       exact ⟨_,(h.begin hiv (by omega) hok.b0).forget fun t ht=>(hiv.kept t ht).1⟩
 by_cases k7:c.kind=7
 . have hd:doS s c=(⟨0,[],(publishS s c.a).1⟩,(publishS s c.a).2):=by
    unfold doS
    rw [if_neg k0,if_neg (by omega),if_neg (by omega),if_neg (by omega),if_neg (by omega),if_neg (by omega),if_pos k7]
   rw [hd]
   have hb:∀ got,begunS all c got s.shown=all:=fun got=>by
    unfold begunS
    split
    . rfl
    . rw [if_neg (by omega)]
      refine mapN_id fun u=>?_
      unfold stepU
      rw [if_neg (by omega),if_neg (by omega),if_neg (by omega),if_neg (by omega)]
   rw [hb]
   unfold publishS
   split
   . exact ⟨kp,h⟩
   . rename_i hp
     exact ⟨_,(h.publish (by omega)).forget fun t ht=>(hiv.kept t ht).1⟩
 obtain ⟨t,hg⟩:∃ t,getT s c.tx=some t:=by
  rcases ha with ha | ha | ha
  . exact absurd ha k0
  . exact absurd ha k7
  . exact ha
 obtain ⟨u,hu,e,hr⟩:=h.act_rel hg
 have huo:=h.ok u hu
 have hdu:u.done=false:=by rw [hr.done];exact (hiv.act _ (getT_pair hg)).1
 have hst0:∀ u:UX,(stepU c ⟨0,[],0⟩ u).num=u.num:=fun u=>by
  unfold stepU
  split
  . split <;> rfl
  . split
    . rfl
    . split
      . rfl
      . split <;> rfl
 by_cases k1:c.kind=1
 . have hd:doS s c=(⟨0,[],(readS s c.tx c.a c.b).1⟩,(readS s c.tx c.a c.b).2):=by
    unfold doS;rw [if_neg k0,if_pos k1]
   obtain ⟨h1,h2⟩:=hab (.inl k1)
   have hrd:readS s c.tx c.a c.b=(0,setT s c.tx (readT t c.a c.b)):=by
    unfold readS
    rw [hg]
    simp only
    rw [if_neg (by omega)]
   rw [hd,hrd]
   have hb:begunS all c ⟨0,[],0⟩ s.shown=mapN all c.tx (stepU c ⟨0,[],0⟩):=by
    unfold begunS
    rw [if_neg (by simp),if_neg k0,if_neg (by omega)]
   simp only
   rw [hb]
   have hsu:stepU c ⟨0,[],0⟩ u=if c.b=0 then { u with whole:=u.whole++[c.a] } else { u with rows:=u.rows++[itemI (c.a,c.b)] }:=by
    unfold stepU;rw [if_pos k1]
   refine ⟨kp,h.set hg hu e hst0 (by rw [hsu];exact rel_read hr h1 h2) ?_ ?_ (readT_snap _ _ _)⟩
   . rw [hsu]
     by_cases h0:c.b=0
     . rw [if_pos h0]
       exact ⟨huo.mode,huo.snap,huo.ro,huo.keys,huo.rows,fun x hx=>by
        rcases List.mem_append.1 hx with hx | hx
        . exact huo.whole x hx
        . rw [List.mem_singleton.1 hx];exact h1,huo.wr,huo.nw⟩
     . rw [if_neg h0]
       exact ⟨huo.mode,huo.snap,huo.ro,huo.keys,fun x hx=>by
        rcases List.mem_append.1 hx with hx | hx
        . exact huo.rows x hx
        . exact ⟨(c.a,c.b),⟨h1,by simp only;omega⟩,List.mem_singleton.1 hx⟩,huo.whole,huo.wr,huo.nw⟩
   . rw [hsu]
     by_cases h0:c.b=0
     . rw [if_pos h0];exact hdu
     . rw [if_neg h0];exact hdu
 by_cases k2:c.kind=2
 . have hd:doS s c=(⟨0,[],(writeS s c.tx ⟨c.a,c.b,c.dead,c.vals⟩).1⟩,(writeS s c.tx ⟨c.a,c.b,c.dead,c.vals⟩).2):=by
    unfold doS;rw [if_neg k0,if_neg k1,if_pos k2]
   obtain ⟨h1,h2⟩:=hab (.inr k2)
   obtain ⟨w1,w2,w3⟩:=write_ok hg ⟨c.a,c.b,c.dead,c.vals⟩
   rw [hd]
   by_cases he:(writeS s c.tx ⟨c.a,c.b,c.dead,c.vals⟩).1=0
   . have hokw:=w1.1 he
     rw [w2 he,he]
     have hb:begunS all c ⟨0,[],0⟩ s.shown=mapN all c.tx (stepU c ⟨0,[],0⟩):=by
      unfold begunS
      rw [if_neg (by simp),if_neg k0,if_neg (by omega)]
     simp only
     rw [hb]
     have hsu:stepU c ⟨0,[],0⟩ u={ u with log:=u.log++[⟨c.a,c.b,false,[]⟩] }:=by
      unfold stepU;rw [if_neg k1,if_pos k2]
     have hrow:1<=c.b:=by have:=hokw.2.1;simp only [not_or] at this;omega
     refine ⟨kp,h.set hg hu e hst0 ?_ ?_ (by rw [hsu];exact hdu) rfl⟩
     . rw [hsu]
       exact ⟨hr.mode,hr.snap,hr.done,hr.stamp,by simp only [hr.log,List.map_append];rfl,hr.reads,hr.rowsT,hr.nodup⟩
     . rw [hsu]
       refine ⟨huo.mode,huo.snap,fun hm=>absurd (hr.mode.symm.trans hm) hokw.1,fun w hw=>?_,huo.rows,huo.whole,fun hdn=>?_,fun _=>huo.nw fun hx=>?_⟩
       . rcases List.mem_append.1 hw with hw | hw
         . exact huo.keys w hw
         . rw [List.mem_singleton.1 hw];exact ⟨h1,by show 1<=c.b/\c.b<=8;omega⟩
       . rw [hdu] at hdn;cases hdn
       . rw [hdu] at hx;cases hx.1
   . rw [w3 he]
     have hb:begunS all c ⟨0,[],(writeS s c.tx ⟨c.a,c.b,c.dead,c.vals⟩).1⟩ s.shown=all:=by
      unfold begunS;rw [if_pos ⟨he,by omega⟩]
     simp only
     rw [hb];exact ⟨kp,h⟩
 by_cases k3:c.kind=3
 . have hd:doS s c=(saveT (getT s c.tx),s):=by
    unfold doS;rw [if_neg k0,if_neg k1,if_neg k2,if_pos k3]
   rw [hd]
   have hb:begunS all c (saveT (getT s c.tx)) s.shown=all:=by
    unfold begunS
    split
    . rfl
    . rw [if_neg (by omega)]
      refine mapN_id fun u=>?_
      unfold stepU
      rw [if_neg (by omega),if_neg (by omega),if_neg (by omega),if_neg (by omega)]
   simp only
   rw [hb];exact ⟨kp,h⟩
 by_cases k4:c.kind=4
 . have hd:doS s c=(⟨0,[],(backS s c.tx c.a).1⟩,(backS s c.tx c.a).2):=by
    unfold doS;rw [if_neg k0,if_neg k1,if_neg k2,if_neg k3,if_pos k4]
   rw [hd]
   unfold backS
   rw [hg]
   simp only
   split
   . have hb:begunS all c ⟨0,[],1⟩ s.shown=all:=by
      unfold begunS;rw [if_pos ⟨by simp,by omega⟩]
     rw [hb];exact ⟨kp,h⟩
   . have hb:begunS all c ⟨0,[],0⟩ s.shown=mapN all c.tx (stepU c ⟨0,[],0⟩):=by
      unfold begunS
      rw [if_neg (by simp),if_neg k0,if_neg (by omega)]
     rw [hb]
     have hsu:stepU c ⟨0,[],0⟩ u={ u with log:=u.log.take c.a.toNat }:=by
      unfold stepU;rw [if_neg k1,if_neg k2,if_pos k4]
     refine ⟨kp,h.set hg hu e hst0 ?_ ?_ (by rw [hsu];exact hdu) rfl⟩
     . rw [hsu]
       exact ⟨hr.mode,hr.snap,hr.done,hr.stamp,by simp only [hr.log,List.map_take],hr.reads,hr.rowsT,hr.nodup⟩
     . rw [hsu]
       refine ⟨huo.mode,huo.snap,fun hm=>?_,fun w hw=>huo.keys w (List.mem_of_mem_take hw),huo.rows,huo.whole,fun hdn=>?_,fun _=>huo.nw fun hx=>?_⟩
       . simp only [huo.ro hm,List.take_nil]
       . rw [hdu] at hdn;cases hdn
       . rw [hdu] at hx;cases hx.1
 by_cases k5:c.kind=5
 . have hd:doS s c=commitS s c.tx:=by
    unfold doS;rw [if_neg k0,if_neg k1,if_neg k2,if_neg k3,if_neg k4,if_pos k5]
   rw [hd]
   unfold commitS
   rw [hg]
   simp only
   by_cases hx:(admitS (histS s) (idxT s c.tx)).2≠0
   . rw [if_pos hx]
     have hb:begunS all c ⟨0,[],(admitS (histS s) (idxT s c.tx)).2⟩ s.shown=all.filter fun u=>decide (u.num≠c.tx):=by
      unfold begunS
      rw [if_neg (by simp [k5]),if_neg k0,if_pos (.inl ⟨k5,hx⟩)]
     rw [hb]
     exact ⟨_,(h.del hg).forget fun t ht=>(hiv.kept t ht).1⟩
   . rw [if_neg hx]
     simp only [ne_eq,Decidable.not_not] at hx
     have hS:(admitS (histS s) (idxT s c.tx)).1=if t.log=[] then 0 else s.last+1:=by
      have hx':=hx
      rw [admit_at hok hiv hg] at hx' ⊢
      rw [(admitN_zero hx').1,stamp_at hiv hg]
     generalize (admitS (histS s) (idxT s c.tx)).1=S at *
     have hb:begunS all c ⟨S,lastW t.log,0⟩ s.shown=mapN all c.tx (doneU S):=by
      unfold begunS
      rw [if_neg (by simp),if_neg k0,if_neg (by simp [k5])]
      congr 1
      funext u
      unfold stepU
      rw [if_neg k1,if_neg k2,if_neg k4,if_pos k5]
      rfl
     rw [hb]
     have hsh:=hiv.sh
     have hcc:(t.log=[]/\S=0/\(if 0<S then S else s.last)=s.last)\/(t.log≠[]/\S=s.last+1/\(if 0<S then S else s.last)=s.last+1):=by
      by_cases hl:t.log=[]
      . rw [if_pos hl] at hS;exact .inl ⟨hl,hS,by rw [if_neg (by omega)]⟩
      . rw [if_neg hl] at hS;exact .inr ⟨hl,hS,by rw [if_pos (by omega)];exact hS⟩
     exact ⟨_,(h.commit hok hiv hg hx hcc).forget fun t' ht=>by
      rcases List.mem_append.1 ht with ht | ht
      . exact (hiv.kept t' ht).1
      . rw [List.mem_singleton.1 ht]⟩
 have k6:c.kind=6:=by omega
 have hd:doS s c=(⟨0,[],(abortS s c.tx).1⟩,(abortS s c.tx).2):=by
  unfold doS;rw [if_neg k0,if_neg k1,if_neg k2,if_neg k3,if_neg k4,if_neg k5,if_neg k7]
 rw [hd]
 unfold abortS
 rw [hg]
 simp only
 have hb:begunS all c ⟨0,[],0⟩ s.shown=all.filter fun u=>decide (u.num≠c.tx):=by
  unfold begunS
  rw [if_neg (by simp),if_neg k0,if_pos (.inr k6)]
 rw [hb]
 exact ⟨_,(h.del hg).forget fun t ht=>(hiv.kept t ht).1⟩
end
theorem doS_none {s:TS} {c:CL} (hg:getT s c.tx=none) (hk:1<=c.kind/\c.kind<=6):(doS s c).1.e=273/\(doS s c).2=s:=by
 unfold doS
 rw [if_neg (by omega)]
 by_cases k1:c.kind=1
 . rw [if_pos k1];simp [readS,hg]
 rw [if_neg k1]
 by_cases k2:c.kind=2
 . rw [if_pos k2];simp [writeS,hg]
 rw [if_neg k2]
 by_cases k3:c.kind=3
 . rw [if_pos k3];simp [saveT,hg]
 rw [if_neg k3]
 by_cases k4:c.kind=4
 . rw [if_pos k4];simp [backS,hg]
 rw [if_neg k4]
 by_cases k5:c.kind=5
 . rw [if_pos k5];simp [commitS,hg]
 rw [if_neg k5,if_neg (by omega)]
 simp [abortS,hg]
def lastAt (all:List UX) (tx:Int):Nat->Int
 | 0=>-1
 | j+1=>if (all.getD j default).num=tx/\(all.getD j default).done=false then j else lastAt all tx j
theorem lastAt_ge {all:List UX} {tx:Int}:∀ {j:Nat},0<=lastAt all tx j->∃ m:Nat,lastAt all tx j=m/\m<j/\(all.getD m default).num=tx/\(all.getD m default).done=false
 | 0=>fun h=>by simp [lastAt] at h
 | j+1=>fun h=>by
   unfold lastAt at h ⊢
   by_cases hc:(all.getD j default).num=tx/\(all.getD j default).done=false
   . rw [if_pos hc];exact ⟨j,rfl,by omega,hc⟩
   . rw [if_neg hc] at h ⊢
     obtain ⟨m,h1,h2,h3⟩:=lastAt_ge h
     exact ⟨m,h1,by omega,h3⟩
theorem lastAt_lt {all:List UX} {tx:Int}:∀ {j:Nat},lastAt all tx j<0->∀ k,k<j->(all.getD k default).num=tx->(all.getD k default).done=true
 | 0=>fun _ k hk=>by omega
 | j+1=>fun h k hk e=>by
   unfold lastAt at h
   by_cases hc:(all.getD j default).num=tx/\(all.getD j default).done=false
   . rw [if_pos hc] at h;omega
   . rw [if_neg hc] at h
     by_cases hkj:k=j
     . subst hkj
       cases hd:(all.getD k default).done
       . exact absurd ⟨e,hd⟩ hc
       . rfl
     . exact lastAt_lt h k (by omega) e
def SzU (i:Nat) (all:List UX):Prop:=all.length<=i/\∀ u ∈ all,u.rows.length<=i/\u.log.length<=i/\u.whole.length<=i
theorem SzU.mono {i j:Nat} {all:List UX} (h:SzU i all) (hij:i<=j):SzU j all:=⟨by have:=h.1;omega,fun u hu=>by have:=h.2 u hu;omega⟩
theorem SzU.begun {i:Nat} {all:List UX} (h:SzU i all) (c:CL) (got:RS) (sh:Int):SzU (i+1) (begunS all c got sh):=by
 have h0:=h.mono (j:=i+1) (by omega)
 unfold begunS
 split
 . exact h0
 split
 . refine ⟨by have:=h.1;simp;omega,fun u hu=>?_⟩
   rcases List.mem_append.1 hu with hu | hu
   . exact h0.2 u hu
   . rw [List.mem_singleton.1 hu];simp
 split
 . exact ⟨Nat.le_trans (List.length_filter_le _ _) h0.1,fun u hu=>h0.2 u (List.mem_filter.1 hu).1⟩
 . refine ⟨by unfold mapN;simpa using h0.1,fun u hu=>?_⟩
   obtain ⟨v,hv,rfl⟩:=List.mem_map.1 hu
   have h1:=h.2 v hv
   by_cases e:v.num=c.tx
   . rw [if_pos e]
     unfold stepU
     split
     . split <;> (simp;omega)
     split
     . simp;omega
     split
     . simp;omega
     split
     . simp;omega
     . omega
   . rw [if_neg e];omega
theorem Gh.nextR {N i:Nat} {all:List UX} {s:TS} (h:∃ kp,Gh all s kp) (hok:OkS N s) (hiv:IvS s) {c:CL} (hc:okC c) {m:Int} (hm:m=lastAt all c.tx all.length) :
 (1<=c.kind/\c.kind<=6/\m<0/\(doS s c).1.e=273/\(doS s c).2=s)\/(¬ (c.kind<0\/(0<c.kind/\c.kind<7/\m<0))/\∃ kp',Gh (begunS all c (doS s c).1 s.shown) (doS s c).2 kp'):=by
 obtain ⟨kp,h⟩:=h
 have hk:=hc.1
 by_cases hz:c.kind=0\/c.kind=7
 . exact .inr ⟨by omega,h.step hok hiv hc (by omega)⟩
 by_cases hm0:m<0
 . refine .inl ⟨by omega,by omega,hm0,?_⟩
   have hn:getT s c.tx=Option.none:=h.none hiv fun u hu e=>by
    obtain ⟨k,hk1,hk2⟩:=mem_getD' hu
    rw [<- hk2] at e ⊢
    exact lastAt_lt (hm ▸ hm0) k hk1 e
   exact doS_none hn ⟨by omega,by omega⟩
 . obtain ⟨k,h1,h2,h3,h4⟩:=lastAt_ge (all:=all) (tx:=c.tx) (j:=all.length) (by omega)
   obtain ⟨t,ht,_⟩:=h.corr_at hiv h2 h4
   rw [h3] at ht
   exact .inr ⟨by omega,h.step hok hiv hc (.inr (.inr ⟨t,ht⟩))⟩
theorem Gh.backB {N:Nat} {all:List UX} {s:TS} (h:∃ kp,Gh all s kp) {c:CL} (k4:c.kind=4) (he:(doS s c).1.e=0):∀ u ∈ all,u.num=c.tx->0<=c.a/\c.a<=u.log.length:=fun u hu e=>by
 obtain ⟨kp,h⟩:=h
 have hd:doS s c=(⟨0,[],(backS s c.tx c.a).1⟩,(backS s c.tx c.a).2):=by unfold doS;rw [if_neg (by omega),if_neg (by omega),if_neg (by omega),if_neg (by omega),if_pos k4]
 rw [hd] at he
 simp only [backS] at he
 cases hg:getT s c.tx with
 | none=>rw [hg] at he;simp at he
 | some t =>
   rw [hg] at he
   simp only at he
   obtain ⟨v,hv,e2,hr⟩:=h.act_rel hg
   have:=num_inj h.nums hu hv (e.trans e2.symm)
   subst this
   rw [hr.log,List.length_map]
   by_cases hb:c.a<0\/(t.log.length:Int)<c.a
   . rw [if_pos hb] at he;simp at he
   . omega
def AntiU (u v:UX):Prop:=u.num≠v.num/\u.done=true/\v.done=true/\readU u v/\u.snap<v.stamp
def DangU (a b c:UX):Prop:=AntiU a b/\AntiU b c/\c.stamp<b.stamp/\(a.num=c.num\/(a.log≠[]/\c.stamp<a.stamp)\/(a.log=[]/\c.stamp<=a.snap))
section
variable {all:List UX} {s:TS} {kp:List (Int × TX)} {N:Nat}
theorem num_idx (hn:(all.map (·.num)).Nodup) {i j:Nat} (hi:i<all.length) (hj:j<all.length):(all.getD i default).num=(all.getD j default).num↔i=j :=
 ⟨fun e=>nodup_getD hn hi hj e,fun e=>by rw [e]⟩
theorem antiU_iff (hn:(all.map (·.num)).Nodup) (hok:∀ u ∈ all,UOk s u) {i j:Nat} (hi:i<all.length) (hj:j<all.length):Anti (fullS all) i j↔AntiU (all.getD i default) (all.getD j default):=by
 unfold Anti AntiE AntiU
 rw [at_full hi,at_full hj,meet_full hok (getD_mem' hi) (getD_mem' hj),ne_eq,ne_eq,num_idx hn hi hj]
 rfl
theorem dangU_iff (hn:(all.map (·.num)).Nodup) (hok:∀ u ∈ all,UOk s u) {a b c:Nat} (ha:a<all.length) (hb:b<all.length) (hc:c<all.length) :
 Dang (fullS all) a b c↔DangU (all.getD a default) (all.getD b default) (all.getD c default):=by
 unfold Dang DangU
 rw [antiU_iff hn hok ha hb,antiU_iff hn hok hb hc,at_full ha,at_full hb,at_full hc,num_idx hn ha hc,fullW_nil]
 have e:((fullA all (all.getD a default)).writes.length=0)↔(all.getD a default).log=[]:=by
  have:=fullW_nil (all:=all) (u:=all.getD a default)
  by_cases h:(all.getD a default).log=[]
  . simp only [h,ne_eq,not_true_eq_false,iff_false] at this
    simp only [h,iff_true];omega
  . simp only [ne_eq,h,not_false_eq_true,iff_true] at this
    simp only [h,iff_false];omega
 rw [e]
 rfl
structure SrlI (all:List UX):Prop where
 dang:∀ a ∈ all,∀ b ∈ all,∀ c ∈ all,¬ DangU a b c
 mode:∀ u ∈ all,u.mode=1\/u.mode=2
 rd:∀ r ∈ all,r.mode=2->(∀ b ∈ all,∀ c ∈ all,AntiU b c->r.snap<b.stamp->¬ c.stamp<=r.snap)/\∀ v ∈ all,v.mode=1->v.done=false->r.snap<=v.snap
theorem SrlI.sub {all':List UX} (h:SrlI all) (h1:∀ u ∈ all',u.done=true->u ∈ all) (h2:∀ u ∈ all',∃ v ∈ all,v.mode=u.mode/\v.snap=u.snap/\(u.done=false->v.done=false)):SrlI all' where
 dang a ha b hb c hc hd:=h.dang a (h1 a ha hd.1.2.1) b (h1 b hb hd.1.2.2.1) c (h1 c hc hd.2.1.2.2.1) hd
 mode u hu:=by obtain ⟨v,hv,e,_⟩:=h2 u hu;rw [<- e];exact h.mode v hv
 rd r hr hm:=by
  obtain ⟨v,hv,e1,e2,_⟩:=h2 r hr
  obtain ⟨k1,k2⟩:=h.rd v hv (e1.trans hm)
  refine ⟨fun b hb c hc ha=>?_,fun w hw hwm hwd=>?_⟩
  . rw [<- e2];exact k1 b (h1 b hb ha.2.1) c (h1 c hc ha.2.2.1) ha
  . obtain ⟨x,hx,f1,f2,f3⟩:=h2 w hw
    rw [<- e2,<- f2];exact k2 x hx (f1.trans hwm) (f3 hwd)
theorem SrlI.push (h:SrlI all) {x:UX} (hd:x.done=false) (hm:x.mode=1\/x.mode=2) (h1:x.mode=1->∀ r ∈ all,r.mode=2->r.snap<=x.snap)
 (h2:x.mode=2->(∀ b ∈ all,∀ c ∈ all,AntiU b c->x.snap<b.stamp->¬ c.stamp<=x.snap)/\∀ v ∈ all,v.mode=1->v.done=false->x.snap<=v.snap):SrlI (all++[x]):=by
 have hin:∀ u ∈ all++[x],u.done=true->u ∈ all:=fun u hu e=>by
  rcases List.mem_append.1 hu with hu | hu
  . exact hu
  . rw [List.mem_singleton.1 hu,hd] at e;cases e
 refine ⟨fun a ha b hb c hc hg=>h.dang a (hin a ha hg.1.2.1) b (hin b hb hg.1.2.2.1) c (hin c hc hg.2.1.2.2.1) hg,fun u hu=>?_,fun r hr hrm=>⟨fun b hb c hc ha=>?_,fun v hv hvm hvd=>?_⟩⟩
 . rcases List.mem_append.1 hu with hu | hu
   . exact h.mode u hu
   . rw [List.mem_singleton.1 hu];exact hm
 . rcases List.mem_append.1 hr with hr | hr
   . exact (h.rd r hr hrm).1 b (hin b hb ha.2.1) c (hin c hc ha.2.2.1) ha
   . rw [List.mem_singleton.1 hr] at hrm ⊢
     exact (h2 hrm).1 b (hin b hb ha.2.1) c (hin c hc ha.2.2.1) ha
 . rcases List.mem_append.1 hr with hr | hr
   . rcases List.mem_append.1 hv with hv | hv
     . exact (h.rd r hr hrm).2 v hv hvm hvd
     . rw [List.mem_singleton.1 hv] at hvm ⊢
       exact h1 hvm r hr hrm
   . rw [List.mem_singleton.1 hr] at hrm ⊢
     rcases List.mem_append.1 hv with hv | hv
     . exact (h2 hrm).2 v hv hvm hvd
     . rw [List.mem_singleton.1 hv,hrm] at hvm;cases hvm
theorem Gh.act_done (h:Gh all s kp) (hiv:IvS s) {tx:Int} {t:TX} (hg:getT s tx=some t) {u:UX} (hu:u ∈ all) (e:u.num=tx):u.done=false:=by
 obtain ⟨v,hv,e2,hr⟩:=h.act_rel hg
 have:=num_inj h.nums hu hv (e.trans e2.symm)
 subst this
 rw [hr.done];exact (hiv.act _ (getT_pair hg)).1
theorem Gh.safe (h:Gh all s kp) (hok:OkS N s) (hiv:IvS s) (hs:SafeS (histS s) s.shown) :
 (∀ b ∈ all,∀ c ∈ all,AntiU b c->s.shown<b.stamp->¬ c.stamp<=s.shown)/\∀ v ∈ all,v.mode=1->v.done=false->s.shown<=v.snap:=by
 obtain ⟨_,_,h3,h4⟩:=safe_iff.1 hs
 have hlk:=leastK_le s
 have hla:leastA s<=s.shown:=leastA_shown s
 refine ⟨fun b hb c hc ha hsb hsc=>?_,fun v hv hm hd=>?_⟩
 . obtain ⟨j,hj,rfl⟩:=mem_getD' hb
   obtain ⟨j',hj',rfl⟩:=mem_getD' hc
   have hnb:¬ Forg s (all.getD j default):=fun hf=>by have:=hf.2.1;omega
   rcases h.corr' hj with hf | ⟨i,ci⟩
   . exact hnb hf
   rcases h.corr' hj' with hf | ⟨i',ci'⟩
   . rcases h.done_kp hiv hb ha.2.1 with ⟨p,hp,e1,e2,e3⟩ | hf2
     . have hk:=leastK_snap s e2 (by rw [<- e3.stamp];omega)
       have:=hf.2.1
       have h5:=ha.2.2.2.2
       rw [e3.snap] at h5;omega
     . exact hnb hf2
   . have hij:i≠i':=fun e=>ha.1 (by rw [(ci.inj h ci').1 e])
     obtain ⟨p1,p2,p3,p4,p5⟩:=corr_f ci
     obtain ⟨q1,q2,q3,q4,q5⟩:=corr_f ci'
     refine h4 i (by rw [histS_len];exact ci.hi) i' (by rw [histS_len];exact ci'.hi) ⟨⟨hij,?_⟩,?_,?_⟩
     . refine ⟨?_,?_,?_,?_⟩
       . rw [p2,at_full hj];exact ha.2.1
       . rw [q2,at_full hj'];exact ha.2.2.1
       . rw [corr_meet h hok hij ci ci',at_full hj,at_full hj',meet_full h.ok hb hc];exact ha.2.2.2.1
       . rw [p1,q3,at_full hj,at_full hj'];exact ha.2.2.2.2
     . rw [p3,at_full hj];exact hsb
     . rw [q3,at_full hj'];exact hsc
 . obtain ⟨j,hj,rfl⟩:=mem_getD' hv
   rcases h.corr' hj with hf | ⟨i,ci⟩
   . rw [hf.1] at hd;cases hd
   . obtain ⟨p1,p2,p3,p4,p5⟩:=corr_f ci
     rw [at_full hj] at p1 p2 p4
     have:=h3 i (by rw [histS_len];exact ci.hi)
     rw [p1,p2,p4] at this
     refine Classical.byContradiction fun hlt=>this ⟨hd,?_,?_⟩
     . show (all.getD j default).mode≠2
       rw [hm];decide
     . show (all.getD j default).snap<s.shown
       omega
theorem doneU_other {S tx:Int} {v:UX} (hv:v ∈ mapN all tx (doneU S)) (hne:v.num≠tx):v ∈ all:=by
 obtain ⟨w,hw,rfl⟩:=List.mem_map.1 hv
 by_cases e:w.num=tx
 . rw [if_pos e] at hne;exact absurd e hne
 . rw [if_neg e];exact hw
theorem doneU_this {S tx:Int} {v u:UX} (hn:(all.map (·.num)).Nodup) (hu:u ∈ all) (eu:u.num=tx) (hv:v ∈ mapN all tx (doneU S)) (e:v.num=tx):v=doneU S u:=by
 obtain ⟨w,hw,rfl⟩:=List.mem_map.1 hv
 by_cases e2:w.num=tx
 . rw [if_pos e2];rw [num_inj hn hw hu (e2.trans eu.symm)]
 . rw [if_neg e2] at e;exact absurd e e2
theorem fullS_done {S tx:Int} {m:Nat} (hn:(all.map (·.num)).Nodup) (hm:m<all.length) (e:(all.getD m default).num=tx):fullS (mapN all tx (doneU S))=withS (fullS all) m S:=by
 have hR:∀ u,fullR (mapN all tx (doneU S)) u=fullR all u:=fun u=>by
  have hl:∀ l:List UX,((l.map fun v=>if v.num=tx then doneU S v else v).flatMap fun v=>(v.log.filter fun w=>u.whole.contains w.tab).map fun w=>itemI w.key)=l.flatMap fun v=>(v.log.filter fun w=>u.whole.contains w.tab).map fun w=>itemI w.key:=fun l=>by
   induction l with
   | nil=>rfl
   | cons x l ih =>
     simp only [List.map_cons,List.flatMap_cons,ih]
     by_cases e:x.num=tx
     . rw [if_pos e];rfl
     . rw [if_neg e]
  unfold fullR mapN
  rw [hl]
 refine List.ext_getElem? fun i=>?_
 by_cases hi:i<all.length
 . have h1:(fullS (mapN all tx (doneU S)))[i]?=some (at' (fullS (mapN all tx (doneU S))) i):=by simp [at',fullS,mapN,hi]
   have h2:(withS (fullS all) m S)[i]?=some (at' (withS (fullS all) m S) i):=by simp [at',withS,fullS,hi]
   rw [h1,h2,at_full (by simpa [mapN] using hi)]
   have h3:(mapN all tx (doneU S)).getD i default=if (all.getD i default).num=tx then doneU S (all.getD i default) else all.getD i default:=by simp [mapN,hi]
   have hml:m<(fullS all).length:=by rw [fullS_len];exact hm
   by_cases him:i=m
   . subst him
     rw [h3,if_pos e,at_with hml,at_full hm]
     unfold fullA
     rw [hR]
     rfl
   . have hne:¬ (all.getD i default).num=tx:=fun e2=>him ((num_idx hn hi hm).1 (e2.trans e.symm))
     rw [h3,if_neg hne,at_with_ne him,at_full hi]
     unfold fullA
     rw [hR]
 . rw [List.getElem?_eq_none (by simp [fullS,mapN];omega),List.getElem?_eq_none (by simp [withS,fullS];omega)]
theorem SrlI.commit (hI:SrlI all) (h:Gh all s kp) (hok:OkS N s) (hiv:IvS s) {tx S:Int} {t:TX} (hg:getT s tx=some t) (he:(admitS (histS s) (idxT s tx)).2=0) (hS:S=(admitS (histS s) (idxT s tx)).1)
 (h':∃ kp' s',Gh (mapN all tx (doneU S)) s' kp'):SrlI (mapN all tx (doneU S)):=by
 obtain ⟨kp',s',h'⟩:=h'
 obtain ⟨u,hu,eu,hr⟩:=h.act_rel hg
 have hud:=h.act_done hiv hg hu eu
 obtain ⟨m,hm,hmu⟩:=mem_getD' hu
 obtain ⟨t2,hg2,cn⟩:=h.corr_at hiv hm (by rw [hmu];exact hud)
 rw [hmu,eu] at hg2 cn
 have hat:=admit_at hok hiv hg
 rw [hat] at he hS
 obtain ⟨z1,z2,z3,z4⟩:=admitN_zero he
 have hcs:=corr_stamp h hiv hg cn
 have hst:=stamp_at hiv hg
 have hsh:=hiv.sh
 have hSv:S=if t.log=[] then 0 else s.last+1:=by rw [hS,z1,hst]
 have hSf:S=stampS (fullS all) m:=by rw [hS,z1,hcs]
 have hfd:fullS (mapN all tx (doneU S))=withS (fullS all) m S:=fullS_done h.nums hm (by rw [hmu];exact eu)
 have hlen:(mapN all tx (doneU S)).length=all.length:=by simp [mapN]
 have hmode:u.mode=1\/u.mode=2:=hI.mode u hu
 have hlog:u.log=[]↔t.log=[]:=hr.nil
 have hmd:(at' (histS s) (idxT s tx)).mode=u.mode:=by
  have:=(corr_f cn).2.2.2.1
  rw [this,at_full hm,hmu];rfl
 have hrl:∀ v,readU v (doneU S u)↔readU v u:=fun v=>Iff.rfl
 have hlr:∀ v,readU (doneU S u) v↔readU u v:=fun v=>Iff.rfl
 have hro:u.mode=2->u.log=[]:=(h.ok u hu).ro
 have hrd:∀ {a:UX},readU a u->u.log≠[]:=fun {a} ⟨w,hw,_⟩ hnil=>by rw [hnil] at hw;cases hw
 refine ⟨fun a ha b hb c hc hd=>?_,fun v hv=>?_,fun r hr2 hm2=>⟨fun b hb c hc hab h1 h2=>?_,fun v hv hvm hvd=>?_⟩⟩
 . by_cases hany:a.num=tx\/b.num=tx\/c.num=tx
   . by_cases hm1:u.mode=1
     . obtain ⟨i,hi,rfl⟩:=mem_getD' ha
       obtain ⟨j,hj,rfl⟩:=mem_getD' hb
       obtain ⟨k,hk,rfl⟩:=mem_getD' hc
       rw [<- dangU_iff h'.nums h'.ok hi hj hk,hfd] at hd
       have hidx:∀ {x},x<(mapN all tx (doneU S)).length->((mapN all tx (doneU S)).getD x default).num=tx->x=m:=fun {x} hx e=>by
        rw [hlen] at hx
        have h3:(mapN all tx (doneU S)).getD x default=if (all.getD x default).num=tx then doneU S (all.getD x default) else all.getD x default:=by simp [mapN,hx]
        rw [h3] at e
        refine (num_idx h.nums hx hm).1 ?_
        rw [hmu,eu]
        by_cases e2:(all.getD x default).num=tx
        . exact e2
        . rw [if_neg e2] at e;exact absurd e e2
       have hW:DangW (fullS all) m:=by
        refine ⟨i,j,k,by rw [fullS_len,<- hlen];exact hi,by rw [fullS_len,<- hlen];exact hj,by rw [fullS_len,<- hlen];exact hk,by rw [<- hSf];exact hd,?_⟩
        rcases hany with e | e | e
        . exact .inl (hidx hi e)
        . exact .inr (.inl (hidx hj e))
        . exact .inr (.inr (hidx hk e))
       exact z4 ⟨hmd.trans hm1,(dangW_iff h hok hiv hg cn hcs).2 hW⟩
     . have hm2:u.mode=2:=hmode.resolve_left hm1
       have hnl:=hro hm2
       have hS0:S=0:=by rw [hSv,if_pos (hlog.1 hnl)]
       have hbn:b.num≠tx:=fun e=>by
        have hbe:=doneU_this h.nums hu eu hb e
        have:=hd.1.2.2.2.1
        rw [hbe] at this
        exact hrd this hnl
       have hcn:c.num≠tx:=fun e=>by
        have hce:=doneU_this h.nums hu eu hc e
        have:=hd.2.1.2.2.2.1
        rw [hce] at this
        exact hrd this hnl
       have han:a.num=tx:=by rcases hany with e | e | e;exact e;exact absurd e hbn;exact absurd e hcn
       have hae:=doneU_this h.nums hu eu ha han
       have hb0:=doneU_other hb hbn
       have hc0:=doneU_other hc hcn
       have h5:=hd.1.2.2.2.2
       have h6:=hd.2.2.2
       rw [hae] at h5 h6
       refine (hI.rd u hu hm2).1 b hb0 c hc0 hd.2.1 h5 ?_
       rcases h6 with e | e | e
       . exact absurd (e.symm.trans eu) hcn
       . exact absurd hnl e.1
       . exact e.2
   . exact hI.dang a (doneU_other ha fun e=>hany (.inl e)) b (doneU_other hb fun e=>hany (.inr (.inl e))) c (doneU_other hc fun e=>hany (.inr (.inr e))) hd
 . by_cases e:v.num=tx
   . rw [doneU_this h.nums hu eu hv e];exact hmode
   . exact hI.mode v (doneU_other hv e)
 . obtain ⟨r0,hr0,hr0m,hr0s⟩:∃ r0 ∈ all,r0.mode=2/\r0.snap=r.snap:=by
    by_cases e:r.num=tx
    . have:=doneU_this h.nums hu eu hr2 e
      rw [this] at hm2 ⊢
      exact ⟨u,hu,hm2,rfl⟩
    . exact ⟨r,doneU_other hr2 e,hm2,rfl⟩
   have hrs:=(h.ok r0 hr0).snap
   by_cases eb:b.num=tx
   . have hbe:=doneU_this h.nums hu eu hb eb
     by_cases hnl:u.log=[]
     . have hS0:S=0:=by rw [hSv,if_pos (hlog.1 hnl)]
       rw [hbe] at h1
       have h1':r.snap<S:=h1
       omega
     . have hm1:u.mode=1:=hmode.resolve_right fun e=>hnl (hro e)
       have hp2:=(hI.rd r0 hr0 hr0m).2 u hu hm1 hud
       have h5:=hab.2.2.2.2
       rw [hbe] at h5
       have h5':u.snap<c.stamp:=h5
       omega
   . by_cases ec:c.num=tx
     . have hce:=doneU_this h.nums hu eu hc ec
       have hrd2:=hab.2.2.2.1
       rw [hce] at hrd2 h2
       have hnl:=hrd hrd2
       have hS1:S=s.last+1:=by rw [hSv,if_neg (fun e=>hnl (hlog.2 e))]
       have h2':S<=r.snap:=h2
       omega
     . exact (hI.rd r0 hr0 hr0m).1 b (doneU_other hb eb) c (doneU_other hc ec) hab (by rw [hr0s];exact h1) (by rw [hr0s];exact h2)
 . obtain ⟨r0,hr0,hr0m,hr0s⟩:∃ r0 ∈ all,r0.mode=2/\r0.snap=r.snap:=by
    by_cases e:r.num=tx
    . have:=doneU_this h.nums hu eu hr2 e
      rw [this] at hm2 ⊢
      exact ⟨u,hu,hm2,rfl⟩
    . exact ⟨r,doneU_other hr2 e,hm2,rfl⟩
   by_cases e:v.num=tx
   . rw [doneU_this h.nums hu eu hv e] at hvd;cases hvd
   . rw [<- hr0s];exact (hI.rd r0 hr0 hr0m).2 v (doneU_other hv e) hvm hvd
end
section
variable {all:List UX} {s:TS} {kp:List (Int × TX)} {N:Nat}
theorem SrlI.step (hI:SrlI all) (h:Gh all s kp) (hok:OkS N s) (hiv:IvS s) {c:CL} (hc:okC c) (ha:c.kind=0\/c.kind=7\/∃ t,getT s c.tx=some t) (h0:c.kind=0->c.a=1\/(c.a=2/\SafeS (histS s) s.shown))
 (h':∃ kp',Gh (begunS all c (doS s c).1 s.shown) (doS s c).2 kp'):SrlI (begunS all c (doS s c).1 s.shown):=by
 by_cases e1:(doS s c).1.e≠0/\c.kind≠5
 . have hb:begunS all c (doS s c).1 s.shown=all:=by unfold begunS;rw [if_pos e1]
   rw [hb];exact hI
 by_cases k0:c.kind=0
 . have hb:begunS all c (doS s c).1 s.shown=all++[⟨(doS s c).1.n,c.a,s.shown,false,0,[],[],[]⟩]:=by unfold begunS;rw [if_neg e1,if_pos k0]
   rw [hb]
   refine hI.push rfl ?_ (fun _ r hr hm=>(h.ok r hr).snap.2) fun hm=>?_
   . rcases h0 k0 with e | e
     . exact .inl e
     . exact .inr e.1
   . rcases h0 k0 with e | e
     . have hm':c.a=2:=hm
       omega
     . exact h.safe hok hiv e.2
 by_cases e2:(c.kind=5/\(doS s c).1.e≠0)\/c.kind=6
 . have hb:begunS all c (doS s c).1 s.shown=all.filter fun u=>decide (u.num≠c.tx):=by unfold begunS;rw [if_neg e1,if_neg k0,if_pos e2]
   rw [hb]
   exact hI.sub (fun u hu _=>(List.mem_filter.1 hu).1) fun u hu=>⟨u,(List.mem_filter.1 hu).1,rfl,rfl,fun h=>h⟩
 have hb:begunS all c (doS s c).1 s.shown=mapN all c.tx (stepU c (doS s c).1):=by unfold begunS;rw [if_neg e1,if_neg k0,if_neg e2]
 by_cases k7:c.kind=7
 . rw [hb,mapN_id fun u=>by unfold stepU;rw [if_neg (by omega),if_neg (by omega),if_neg (by omega),if_neg (by omega)]]
   exact hI
 obtain ⟨t,hg⟩:=ha.resolve_left k0 |>.resolve_left k7
 by_cases k5:c.kind=5
 . have he:(doS s c).1.e=0:=Classical.byContradiction fun h=>e2 (.inl ⟨k5,h⟩)
   have hf:stepU c (doS s c).1=doneU (doS s c).1.n:=by
    funext u
    unfold stepU doneU
    rw [if_neg (by omega),if_neg (by omega),if_neg (by omega),if_pos k5,he]
    simp
   rw [hb,hf] at h' ⊢
   have hdo:doS s c=commitS s c.tx:=by unfold doS;rw [if_neg (by omega),if_neg (by omega),if_neg (by omega),if_neg (by omega),if_neg (by omega),if_pos k5]
   have hcm:(commitS s c.tx).1.e=(admitS (histS s) (idxT s c.tx)).2/\((commitS s c.tx).1.e=0->(commitS s c.tx).1.n=(admitS (histS s) (idxT s c.tx)).1):=by
    unfold commitS
    rw [hg]
    simp only
    by_cases hx:(admitS (histS s) (idxT s c.tx)).2≠0
    . rw [if_pos hx];exact ⟨rfl,fun h0=>absurd h0 hx⟩
    . rw [if_neg hx];simp only [ne_eq,Decidable.not_not] at hx;exact ⟨hx.symm,fun _=>rfl⟩
   rw [<- hdo] at hcm
   obtain ⟨kp',h'⟩:=h'
   exact hI.commit h hok hiv hg (by rw [<- hcm.1];exact he) (hcm.2 he) ⟨kp',_,h'⟩
 . rw [hb]
   have hd:∀ u,(stepU c (doS s c).1 u).mode=u.mode/\(stepU c (doS s c).1 u).snap=u.snap/\(stepU c (doS s c).1 u).done=u.done:=fun u=>by
    unfold stepU
    split
    . split <;> exact ⟨rfl,rfl,rfl⟩
    split
    . exact ⟨rfl,rfl,rfl⟩
    split
    . exact ⟨rfl,rfl,rfl⟩
    exact ⟨rfl,rfl,rfl⟩
   refine hI.sub (fun u hu hdn=>?_) fun u hu=>?_
   . obtain ⟨v,hv,rfl⟩:=List.mem_map.1 hu
     by_cases e:v.num=c.tx
     . rw [if_pos e,(hd v).2.2,h.act_done hiv hg hv e] at hdn;cases hdn
     . rw [if_neg e];exact hv
   . obtain ⟨v,hv,rfl⟩:=List.mem_map.1 hu
     refine ⟨v,hv,?_⟩
     by_cases e:v.num=c.tx
     . rw [if_pos e];obtain ⟨h1,h2,h3⟩:=hd v;exact ⟨h1.symm,h2.symm,fun h=>by rw [<- h3];exact h⟩
     . rw [if_neg e];exact ⟨rfl,rfl,fun h=>h⟩
theorem SrlI.nil:SrlI []:=⟨by simp,by simp,by simp⟩
theorem SrlI.end (hI:SrlI all) (h:Gh all s kp) (hiv:IvS s) (hn:all.length<=100) {t:Option (List Nat)} (ht:SerialF (fullS all) t):∃ ol,t=some ol/\EqvS (fullS all) (natL ol):=by
 have hc:=full_check h hiv hn
 have hs:SerialS (fullS all) t:=by unfold SerialF at ht;rw [if_pos hc] at ht;exact ht
 cases t with
 | none =>
   obtain ⟨a,b,c,h1,h2,h3,h4⟩:=dang_of_none hc hs
   rw [fullS_len] at h1 h2 h3
   rw [dangU_iff h.nums h.ok h1 h2 h3] at h4
   exact absurd h4 (hI.dang _ (getD_mem' h1) _ (getD_mem' h2) _ (getD_mem' h3))
 | some ol=>exact ⟨ol,rfl,eqv_of_serial hc hs⟩
end
end Go.Proofs.Try
