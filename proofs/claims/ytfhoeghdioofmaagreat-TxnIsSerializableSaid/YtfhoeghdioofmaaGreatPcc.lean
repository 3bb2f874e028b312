/-
 A part of the proof.
-/
import Derived.Test.YtfhoeghdioofmaaGreatEkk
import Derived.Test.YtfhoeghdioofmaaGreatPqq
set_option linter.unusedSimpArgs false
set_option linter.unusedVariables false
namespace Go.Proofs.Try
open Go.Al
set_option maxRecDepth 100000
set_option maxHeartbeats 16000000
def meetT (a b:TX):Prop:=∃ u ∈ a.log,∃ v ∈ b.log,u.key=v.key
structure TxOk (shown:Int) (t:TX):Prop where
 mode:0<=t.mode/\t.mode<=2
 snap:0<=t.snap/\t.snap<=shown
 ro:t.mode=2->t.log=[]
 wlen:(lastW t.log).length<=64
def KOk (last:Int) (t:TX):Prop:=t.done=true/\(t.log=[]->t.stamp=0)/\(t.log≠[]->t.snap<t.stamp/\t.stamp<=last)
def SepT (a b:TX):Prop:=a.log≠[]->b.log≠[]->a.stamp<b.stamp/\(meetT a b->a.stamp<=b.snap)
structure IvS (s:TS):Prop where
 sh:0<=s.shown/\s.shown<=s.last/\s.last<=1073741824
 tx:∀ t ∈ allS s,TxOk s.shown t
 act:∀ p ∈ s.act,p.2.done=false/\p.2.stamp=0
 kept:∀ t ∈ s.kept,KOk s.last t
 sep:s.kept.Pairwise SepT
 top:s.shown=s.last\/∃ t ∈ s.kept,t.log≠[]/\t.stamp=s.last
 topA:∀ p ∈ s.act,p.2.snap=s.last\/∃ t ∈ s.kept,t.log≠[]/\t.stamp=s.last
 keys:(s.act.map (·.1)).Pairwise (· < ·)
 nums:∀ p ∈ s.act,0<p.1/\p.1<=s.begun
theorem mem_allS {s:TS} {t:TX}:t ∈ allS s↔t ∈ s.kept\/∃ p ∈ s.act,p.2=t:=by
 simp only [allS,List.mem_append,List.mem_map]
theorem minA_le {α:Type} (f:α->Int):∀ (l:List α) (m:Int),l.foldl (fun m p=>min m (f p)) m<=m/\∀ p ∈ l,l.foldl (fun m p=>min m (f p)) m<=f p
 | [],m=>by simp
 | x::l,m=>by
   obtain ⟨h1,h2⟩:=minA_le f l (min m (f x))
   rw [List.foldl_cons]
   refine ⟨by omega,fun p hp=>?_⟩
   rcases List.mem_cons.1 hp with rfl | hp
   . omega
   . exact h2 p hp
theorem minA_ge {α:Type} (f:α->Int) (a:Int):∀ (l:List α) (m:Int),a<=m->(∀ p ∈ l,a<=f p)->a<=l.foldl (fun m p=>min m (f p)) m
 | [],m=>fun h _=>h
 | x::l,m=>fun h k=>by
   rw [List.foldl_cons]
   have:=k x (by simp)
   exact minA_ge f a l _ (by omega) fun p hp=>k p (by simp [hp])
theorem minK_le {α:Type} (c:α->Prop) [DecidablePred c] (f:α->Int):∀ (l:List α) (m:Int),l.foldl (fun k t=>if c t then min k (f t) else k) m<=m/\∀ p ∈ l,c p->l.foldl (fun k t=>if c t then min k (f t) else k) m<=f p
 | [],m=>by simp
 | x::l,m=>by
   obtain ⟨h1,h2⟩:=minK_le c f l (if c x then min m (f x) else m)
   rw [List.foldl_cons]
   refine ⟨?_,fun p hp hc=>?_⟩
   . split at h1 <;> rename_i h
     . rw [if_pos h];omega
     . rw [if_neg h];omega
   . rcases List.mem_cons.1 hp with rfl | hp
     . rw [if_pos hc] at h1 ⊢;omega
     . exact h2 p hp hc
theorem leastA_shown (s:TS):leastA s<=s.shown:=(minA_le (fun p:Int × TX=>p.2.snap) s.act s.shown).1
theorem leastA_snap (s:TS) {p:Int × TX} (hp:p ∈ s.act):leastA s<=p.2.snap:=(minA_le (fun p:Int × TX=>p.2.snap) s.act s.shown).2 p hp
theorem leastK_le (s:TS):leastK s<=leastA s:=(minK_le (fun t:TX=>leastA s<t.stamp) (fun t=>t.snap) s.kept (leastA s)).1
theorem leastK_snap (s:TS) {t:TX} (ht:t ∈ s.kept) (h:leastA s<t.stamp):leastK s<=t.snap:=(minK_le (fun t:TX=>leastA s<t.stamp) (fun t=>t.snap) s.kept (leastA s)).2 t ht h
theorem gone_iff {k:Int} {t:TX}:gone k t=true↔t.stamp<=k/\(0<t.stamp\/t.snap<=k):=by simp [gone]
theorem mem_forget {s:TS} {t:TX}:t ∈ (forgetS s).kept↔t ∈ s.kept/\¬ (gone (leastK s) t=true):=by
 simp [forgetS]
theorem IvS.forget {s:TS} (h:IvS s):IvS (forgetS s):=by
 obtain ⟨h1,h2,h3,h4,h5,h6,h7,h8,h9⟩:=h
 have stay:∀ t ∈ s.kept,leastK s<t.stamp->t ∈ (forgetS s).kept:=fun t ht hl=>mem_forget.2 ⟨ht,fun hg=>by have:=(gone_iff.1 hg).1;omega⟩
 have hk:=leastK_le s
 refine ⟨h1,fun t ht=>?_,h3,fun t ht=>h4 t (mem_forget.1 ht).1,h5.sublist List.filter_sublist,?_,fun p hp=>?_,h8,h9⟩
 . rcases mem_allS.1 ht with ht | ht
   . exact h2 t (mem_allS.2 (.inl (mem_forget.1 ht).1))
   . exact h2 t (mem_allS.2 (.inr ht))
 . by_cases e:s.shown=s.last
   . exact .inl e
   . rcases h6 with h6 | ⟨t,ht,hl,hs⟩
     . exact absurd h6 e
     . have:=leastA_shown s
       exact .inr ⟨t,stay t ht (by omega),hl,hs⟩
 . by_cases e:p.2.snap=s.last
   . exact .inl e
   . rcases h7 p hp with h7 | ⟨t,ht,hl,hs⟩
     . exact absurd h7 e
     . have:=leastA_snap s hp
       have:=(h2 p.2 (mem_allS.2 (.inr ⟨p,hp,rfl⟩))).snap
       exact .inr ⟨t,stay t ht (by omega),hl,hs⟩
theorem getT_pair {s:TS} {tx:Int} {t:TX} (h:getT s tx=some t):(tx,t) ∈ s.act:=by
 simp only [getT,Option.map_eq_some_iff] at h
 obtain ⟨p,hp,rfl⟩:=h
 have h1:=List.find?_some hp
 simp only [decide_eq_true_eq] at h1
 rw [<- h1]
 exact List.mem_of_find?_eq_some hp
theorem key_inj {l:List (Int × TX)} (h:(l.map (·.1)).Pairwise (· < ·)) {p q:Int × TX} (hp:p ∈ l) (hq:q ∈ l) (e:p.1=q.1):p=q:=by
 induction l with
 | nil=>cases hp
 | cons x l ih =>
   simp only [List.map_cons,List.pairwise_cons,List.mem_map] at h
   obtain ⟨h1,h2⟩:=h
   rcases List.mem_cons.1 hp with rfl | hp' <;> rcases List.mem_cons.1 hq with rfl | hq'
   . rfl
   . have:=h1 q.1 ⟨q,hq',rfl⟩;omega
   . have:=h1 p.1 ⟨p,hp',rfl⟩;omega
   . exact ih h2 hp' hq'
theorem IvS.getT {s:TS} (h:IvS s) {p:Int × TX} (hp:p ∈ s.act):getT s p.1=some p.2:=by
 cases e:Go.Proofs.Try.getT s p.1 with
 | none =>
   simp only [Go.Proofs.Try.getT,Option.map_eq_none_iff,List.find?_eq_none] at e
   exact absurd (by simp) (e p hp)
 | some t =>
   have:=key_inj h.keys hp (getT_pair e) rfl
   rw [this]
theorem mem_set_act {s:TS} {tx:Int} {t:TX} {p:Int × TX} (hp:p ∈ (setT s tx t).act):p=(tx,t)\/(p ∈ s.act/\p.1≠tx):=by
 simp only [setT,List.mem_map] at hp
 obtain ⟨q,hq,rfl⟩:=hp
 by_cases e:q.1=tx
 . simp [e]
 . simp only [e,if_false];exact .inr ⟨hq,e⟩
theorem set_keys (s:TS) (tx:Int) (t:TX):(setT s tx t).act.map (·.1)=s.act.map (·.1):=by
 simp only [setT,List.map_map]
 refine List.map_congr_left fun p _=>?_
 by_cases e:p.1=tx <;> simp [e]
theorem IvS.set {s:TS} (h:IvS s) {tx:Int} {t t':TX} (hg:Go.Proofs.Try.getT s tx=some t) (e1:t'.mode=t.mode) (e2:t'.snap=t.snap) (e3:t'.done=t.done) (e4:t'.stamp=t.stamp) (e5:t.mode=2->t'.log=[]) (e6:(lastW t'.log).length<=64):IvS (setT s tx t'):=by
 obtain ⟨h1,h2,h3,h4,h5,h6,h7,h8,h9⟩:=h
 have hm:=getT_pair hg
 have ht:=h2 t (getT_mem hg)
 have hp':∀ p ∈ (setT s tx t').act,∃ q ∈ s.act,q.1=p.1/\q.2.snap=p.2.snap/\q.2.done=p.2.done/\q.2.stamp=p.2.stamp:=fun p hp=>by
  rcases mem_set_act hp with rfl | ⟨hp,_⟩
  . exact ⟨_,hm,rfl,e2.symm,e3.symm,e4.symm⟩
  . exact ⟨p,hp,rfl,rfl,rfl,rfl⟩
 refine ⟨h1,fun u hu=>?_,fun p hp=>?_,h4,h5,h6,fun p hp=>?_,by rw [set_keys];exact h8,fun p hp=>?_⟩
 . rcases mem_setT hu with rfl | hu
   . exact ⟨by rw [e1];exact ht.mode,by rw [e2];exact ht.snap,fun hm=>e5 (by rw [<- e1];exact hm),e6⟩
   . exact h2 u hu
 . obtain ⟨q,hq,_,_,a,b⟩:=hp' p hp
   rw [<- a,<- b];exact h3 q hq
 . obtain ⟨q,hq,_,a,_,_⟩:=hp' p hp
   rw [<- a];exact h7 q hq
 . obtain ⟨q,hq,a,_,_,_⟩:=hp' p hp
   rw [<- a];exact h9 q hq
theorem mem_del {s:TS} {tx:Int} {p:Int × TX}:p ∈ (delT s tx).act↔p ∈ s.act/\p.1≠tx:=by simp [delT]
theorem IvS.del {s:TS} (h:IvS s) (tx:Int):IvS (delT s tx):=by
 obtain ⟨h1,h2,h3,h4,h5,h6,h7,h8,h9⟩:=h
 refine ⟨h1,fun u hu=>?_,fun p hp=>h3 p (mem_del.1 hp).1,h4,h5,h6,fun p hp=>h7 p (mem_del.1 hp).1,h8.sublist ?_,fun p hp=>h9 p (mem_del.1 hp).1⟩
 . rcases mem_allS.1 hu with hu | ⟨p,hp,rfl⟩
   . exact h2 u (mem_allS.2 (.inl hu))
   . exact h2 _ (mem_allS.2 (.inr ⟨p,(mem_del.1 hp).1,rfl⟩))
 . exact List.filter_sublist.map _
theorem IvS.new {last:Int} (h:0<=last/\last<=1073741824):IvS ⟨last,last,0,[],[]⟩ :=
 ⟨⟨h.1,Int.le_refl _,h.2⟩,by simp [allS],by simp,by simp,by simp,.inl rfl,by simp,by simp,by simp⟩
theorem IvS.begin {s:TS} (h:IvS s) (h0:0<=s.begun) (mode:Int):IvS (beginS s mode).2:=by
 unfold beginS
 split
 . exact h
 . split
   . exact h
   . rename_i m1 m2
     refine IvS.forget ?_
     obtain ⟨h1,h2,h3,h4,h5,h6,h7,h8,h9⟩:=h
     refine ⟨h1,fun u hu=>?_,fun p hp=>?_,h4,h5,h6,fun p hp=>?_,?_,fun p hp=>?_⟩
     . rcases mem_allS.1 hu with hu | ⟨p,hp,rfl⟩
       . exact h2 u (mem_allS.2 (.inl hu))
       . rcases List.mem_append.1 hp with hp | hp
         . exact h2 _ (mem_allS.2 (.inr ⟨p,hp,rfl⟩))
         . rw [List.mem_singleton.1 hp]
           exact ⟨by simp only;omega,⟨h1.1,Int.le_refl _⟩,fun _=>rfl,by simp [lastW]⟩
     . rcases List.mem_append.1 hp with hp | hp
       . exact h3 p hp
       . rw [List.mem_singleton.1 hp];exact ⟨rfl,rfl⟩
     . rcases List.mem_append.1 hp with hp | hp
       . exact h7 p hp
       . rw [List.mem_singleton.1 hp];exact h6
     . simp only [List.map_append,List.map_cons,List.map_nil]
       refine List.pairwise_append.2 ⟨h8,by simp,fun x hx y hy=>?_⟩
       rw [List.mem_singleton.1 hy]
       obtain ⟨p,hp,rfl⟩:=List.mem_map.1 hx
       have:=h9 p hp;omega
     . rcases List.mem_append.1 hp with hp | hp
       . have:=h9 p hp;simp only;omega
       . rw [List.mem_singleton.1 hp];simp only;omega
theorem IvS.read {s:TS} (h:IvS s) (tx tab row:Int):IvS (readS s tx tab row).2:=by
 unfold readS
 cases hg:Go.Proofs.Try.getT s tx with
 | none=>exact h
 | some t =>
   have ht:=h.tx t (getT_mem hg)
   simp only
   split
   . exact h
   . have e:∀ tab row,(readT t tab row).mode=t.mode/\(readT t tab row).snap=t.snap/\(readT t tab row).done=t.done/\(readT t tab row).stamp=t.stamp/\(readT t tab row).log=t.log:=fun tab row=>by
      unfold readT
      split
      . simp
      . split <;> simp
     obtain ⟨a,b,c,d,f⟩:=e tab row
     exact h.set hg a b c d (fun hm=>by rw [f];exact ht.ro hm) (by rw [f];exact ht.wlen)
theorem putW_has {w:WR}:∀ {l:List WR},SrtW l->(∃ x ∈ l,x.key=w.key)->(putW w l).length=l.length
 | [],_,h=>by simp at h
 | y::l,hs,h=>by
   obtain ⟨h1,h2⟩:=List.pairwise_cons.1 hs
   rw [putW]
   split
   . rename_i hlt
     obtain ⟨x,hx,e⟩:=h
     rcases List.mem_cons.1 hx with rfl | hx
     . rw [e] at hlt;exact absurd hlt (keyLt_irr _)
     . have:=keyLt_trans hlt (h1 x hx)
       rw [e] at this;exact absurd this (keyLt_irr _)
   . split
     . rfl
     . rename_i hne
       rw [List.length_cons,List.length_cons,putW_has h2]
       obtain ⟨x,hx,e⟩:=h
       rcases List.mem_cons.1 hx with rfl | hx
       . exact absurd e.symm hne
       . exact ⟨x,hx,e⟩
theorem IvS.write {s:TS} (h:IvS s) (tx:Int) (w:WR):IvS (writeS s tx w).2:=by
 unfold writeS
 cases hg:Go.Proofs.Try.getT s tx with
 | none=>exact h
 | some t =>
   have ht:=h.tx t (getT_mem hg)
   simp only
   split
   . exact h
   . split
     . exact h
     . split
       . exact h
       . rename_i h1 h2 h3
         refine h.set hg rfl rfl rfl rfl (fun hm=>absurd hm h1) ?_
         simp only
         rw [lastW_snoc]
         by_cases hk:∃ x ∈ t.log,x.key=w.key
         . rw [putW_has (lastW_srt _) (mem_lastW_key.2 hk)];exact ht.wlen
         . have h4:(t.log.any fun x=>decide (x.key=w.key))=false:=by
            rw [List.any_eq_false]
            intro x hx e
            exact hk ⟨x,hx,by simpa using e⟩
           have:=putW_len w (lastW t.log)
           have:¬ 64<=(lastW t.log).length:=fun h=>h3 ⟨h4,h⟩
           omega
theorem lastW_sub {l m:List WR} (h:∀ w ∈ l,w ∈ m):(lastW l).length<=(lastW m).length:=by
 have hn:∀ l,((lastW l).map WR.key).Nodup:=fun l=>by
  rw [List.nodup_iff_pairwise_ne,List.pairwise_map]
  refine (lastW_srt l).imp ?_
  intro a b hlt e
  rw [e] at hlt
  exact keyLt_irr _ hlt
 have:((lastW l).map WR.key).length<=((lastW m).map WR.key).length:=nodup_length_le (hn l) fun k hk=>by
  obtain ⟨w,hw,rfl⟩:=List.mem_map.1 hk
  obtain ⟨v,hv,e⟩:=mem_lastW_key.2 ⟨w,h w (lastW_mem w hw),rfl⟩
  exact List.mem_map.2 ⟨v,hv,e⟩
 simpa using this
theorem IvS.back {s:TS} (h:IvS s) (tx mark:Int):IvS (backS s tx mark).2:=by
 unfold backS
 cases hg:Go.Proofs.Try.getT s tx with
 | none=>exact h
 | some t =>
   have ht:=h.tx t (getT_mem hg)
   simp only
   split
   . exact h
   . refine h.set hg rfl rfl rfl rfl (fun hm=>?_) ?_
     . simp [ht.ro hm]
     . exact Nat.le_trans (lastW_sub fun w hw=>List.mem_of_mem_take hw) ht.wlen
theorem IvS.publish {s:TS} (h:IvS s) (a:Int):IvS (publishS s a).2:=by
 unfold publishS
 split
 . exact h
 . rename_i ha
   obtain ⟨h1,h2,h3,h4,h5,h6,h7,h8,h9⟩:=h
   refine IvS.forget ⟨⟨by simp only;omega,by simp only;omega,h1.2.2⟩,fun t ht=>?_,h3,h4,h5,?_,h7,h8,h9⟩
   . have:=h2 t ht
     exact ⟨this.mode,⟨this.snap.1,by have:=this.snap.2;simp only;omega⟩,this.ro,this.wlen⟩
   . simp only
     rcases h6 with h6 | h6
     . left;omega
     . exact .inr h6
theorem IvS.abort {s:TS} (h:IvS s) (tx:Int):IvS (abortS s tx).2:=by
 unfold abortS
 split
 . exact (h.del tx).forget
 . exact h
theorem histS_len (s:TS):(histS s).length=(allS s).length:=by simp [histS,histL]
theorem at_hist {s:TS} {i:Nat} (hi:i<(allS s).length):at' (histS s) i=accOf (allS s) i:=by
 simp [at',histS,histL,hi]
theorem getD_allS {s:TS} {i:Nat} (hi:i<(allS s).length):(allS s).getD i default ∈ allS s:=by
 simp [hi]
theorem item_inj {a b:Int × Int} (ha:0<=a.2/\a.2<=1073741824) (hb:0<=b.2/\b.2<=1073741824) (e:itemI a=itemI b):a=b:=by
 unfold itemI at e
 have h1:a.1=b.1:=by omega
 have h2:a.2=b.2:=by omega
 exact Prod.ext h1 h2
abbrev writesT (t:TX):List Int:=(lastW t.log).map fun w=>itemI w.key
theorem mem_writesT {t:TX} {x:Int}:x ∈ writesT t↔∃ w ∈ t.log,itemI w.key=x:=by
 simp only [writesT,List.mem_map]
 constructor
 . rintro ⟨w,hw,e⟩;exact ⟨w,lastW_mem w hw,e⟩
 . rintro ⟨w,hw,e⟩
   obtain ⟨v,hv,e2⟩:=mem_lastW_key.2 ⟨w,hw,rfl⟩
   exact ⟨v,hv,by rw [e2];exact e⟩
theorem writesT_nil {t:TX}:(writesT t).length=0↔t.log=[]:=by
 constructor
 . intro h
   cases hl:t.log with
   | nil=>rfl
   | cons w l =>
     have:itemI w.key ∈ writesT t:=mem_writesT.2 ⟨w,by simp [hl],rfl⟩
     rw [List.length_eq_zero_iff.1 h] at this;cases this
 . intro h;simp [writesT,h,lastW]
theorem writesT_pos {t:TX}:0<(writesT t).length↔t.log≠[]:=by
 rw [Nat.pos_iff_ne_zero,ne_eq,writesT_nil]
theorem meet_iff {a b:TX} (ha:OkT a) (hb:OkT b):Meet (writesT a) (writesT b)↔meetT a b:=by
 constructor
 . rintro ⟨x,h1,h2⟩
   obtain ⟨u,hu,e1⟩:=mem_writesT.1 h1
   obtain ⟨v,hv,e2⟩:=mem_writesT.1 h2
   have k1:=(ha.log u hu).2
   have k2:=(hb.log v hv).2
   refine ⟨u,hu,v,hv,item_inj (a:=u.key) (b:=v.key) ?_ ?_ (e1.trans e2.symm)⟩
   . show 0<=u.row/\u.row<=_;omega
   . show 0<=v.row/\v.row<=_;omega
 . rintro ⟨u,hu,v,hv,e⟩
   exact ⟨itemI u.key,mem_writesT.2 ⟨u,hu,rfl⟩,mem_writesT.2 ⟨v,hv,by rw [e]⟩⟩
theorem asc_of {l:List Int} (h:l.Pairwise (· < ·)):Asc l:=fun j hj=>by
 have:=List.pairwise_iff_getElem.1 h j (j+1) (by omega) hj (by omega)
 simp only [List.getD_eq_getElem?_getD,List.getElem?_eq_getElem hj,List.getElem?_eq_getElem (by omega:j<l.length),Option.getD_some]
 exact this
theorem writesT_asc {t:TX} (ht:OkT t):Asc (writesT t):=by
 refine asc_of (List.pairwise_map.2 ?_)
 refine List.Pairwise.imp_of_mem (fun {a b} ha hb h=>?_) (lastW_srt t.log)
 have k1:=(ht.log a (lastW_mem a ha)).2
 have k2:=(ht.log b (lastW_mem b hb)).2
 rw [keyLt_iff] at h
 simp only [WR.key,itemI] at *
 omega
theorem filter_len_le {α:Type} (p:α->Bool) (l:List α):(l.filter p).length<=l.length:=List.length_filter_le _ _
theorem withL_len (n:Int):∀ l:List Int,(withL n l).length<=l.length+1
 | []=>by simp [withL]
 | x::l=>by
   rw [withL]
   split
   . have:=filter_len_le (fun y=>decide (y≠n)) (x::l)
     simp only [List.length_cons] at *;omega
   . have:=withL_len n l
     simp only [List.length_cons];omega
theorem ascL_len (l:List Int):(ascL l).length<=l.length:=by
 refine rev_ind (p:=fun l=>(ascL l).length<=l.length) (by simp [ascL]) (fun l n ih=>?_) l
 rw [ascL_snoc]
 have:=withL_len n (ascL l)
 simp only [List.length_append,List.length_singleton];omega
theorem flat_one {α:Type} {f:α->List Int} (hf:∀ x,(f x).length<=1) {l:List α} {a:α} (ha:a ∈ l) (h0:f a=[]):(l.flatMap f).length+1<=l.length:=by
 obtain ⟨l1,l2,rfl⟩:=List.append_of_mem ha
 have h1:=flat_len hf l1
 have h2:=flat_len hf l2
 simp only [List.flatMap_append,List.flatMap_cons,h0,List.nil_append,List.length_append,List.length_cons]
 omega
theorem reads_len {l:List TX} {k:Nat} (hk:k<l.length) (hl:l.length<=40) (hr:(l.getD k default).rows.length<=24):(readsOf l k).length<=64:=by
 have h1:=ascL_len ((l.getD k default).rows.map itemI++(List.range l.length).flatMap fun i=>if i=k then [] else seenOf (l.getD k default) (l.getD i default))
 have h2:=flat_one (f:=fun i=>if i=k then [] else seenOf (l.getD k default) (l.getD i default)) (fun i=>by
  by_cases h:i=k <;> simp [h,seen_len]) (l:=List.range l.length) (a:=k) (by simpa using hk) (by simp)
 unfold readsOf
 simp only [List.length_append,List.length_map,List.length_range] at *
 omega
theorem at_acc (l:List TX) (k:Nat):(accOf l k).writes=writesT (l.getD k default):=rfl
theorem acc_writer {l:List TX} {k:Nat}:(accOf l k).writer=true↔(l.getD k default).done=true/\(l.getD k default).log≠[]:=by
 simp only [Acc.writer,Bool.and_eq_true,decide_eq_true_eq,at_acc,writesT_pos]
 rfl
def SepA (a b:TX):Prop:=a.done=true->b.done=true->SepT a b
theorem IvS.sepA {s:TS} (h:IvS s):(allS s).Pairwise SepA:=by
 have hn:∀ t ∈ s.act.map (·.2),t.done=false:=fun t ht=>by
  obtain ⟨p,hp,rfl⟩:=List.mem_map.1 ht
  exact (h.act p hp).1
 refine List.pairwise_append.2 ⟨h.sep.imp fun hab _ _=>hab,?_,fun a ha b hb _ hd=>?_⟩
 . refine List.Pairwise.imp_of_mem (fun {a b} ha hb _=>?_) (List.pairwise_of_forall (R:=fun _ _=>True) fun _ _=>trivial)
   intro hd
   rw [hn a ha] at hd;cases hd
 . rw [hn b hb] at hd;cases hd
theorem done_kept {s:TS} (h:IvS s) {t:TX} (ht:t ∈ allS s) (hd:t.done=true):t ∈ s.kept:=by
 rcases mem_allS.1 ht with h1 | ⟨p,hp,rfl⟩
 . exact h1
 . rw [(h.act p hp).1] at hd;cases hd
theorem iv_check {N:Nat} {s:TS} (hok:OkS N s) (h:IvS s):checkS (histS s)=0:=by
 have hl:(allS s).length<=40:=by have:=hok.cnt;simp only [allS,List.length_append,List.length_map];omega
 rw [check_zero]
 have sep:∀ i j,i<j->j<(allS s).length->(accOf (allS s) i).writer=true->(accOf (allS s) j).writer=true->((allS s).getD i default).stamp<((allS s).getD j default).stamp/\(meetT ((allS s).getD i default) ((allS s).getD j default)->((allS s).getD i default).stamp<=((allS s).getD j default).snap):=fun i j hij hj hi2 hj2=>by
  have:=List.pairwise_iff_getElem.1 h.sepA i j (by omega) hj hij
  have e1:(allS s).getD i default=(allS s)[i]'(by omega):=by simp [show i<(allS s).length by omega]
  have e2:(allS s).getD j default=(allS s)[j]:=by simp [hj]
  rw [acc_writer] at hi2 hj2
  rw [<- e1,<- e2] at this
  exact this hi2.1 hj2.1 hi2.2 hj2.2
 have form:∀ i,i<(allS s).length->(accOf (allS s) i).Formed:=fun i hi=>by
  have hm:=getD_allS hi
  have ht:=h.tx _ hm
  have hx:=(hok.tx _ hm).1
  refine ⟨ht.mode.1,ht.mode.2,ht.snap.1,?_,asc_of (ascL_asc _),writesT_asc hx,?_,?_,?_⟩
  . have:=ht.snap.2;have:=h.sh;show ((allS s).getD i default).snap<=_;omega
  . rintro ⟨h1,h2⟩
    exact writesT_pos.1 h2 (ht.ro h1)
  . intro hw
    rw [acc_writer] at hw
    have:=(h.kept _ (done_kept h hm hw.1)).2.2 hw.2
    have:=h.sh
    show ((allS s).getD i default).snap<((allS s).getD i default).stamp/\((allS s).getD i default).stamp<=_
    omega
  . intro hw
    rw [<- Bool.not_eq_true,acc_writer] at hw
    show ((allS s).getD i default).stamp=0
    rcases mem_allS.1 hm with hk | ⟨p,hp,e⟩
    . have:=h.kept _ hk
      exact this.2.1 (Classical.byContradiction fun hl=>hw ⟨this.1,hl⟩)
    . rw [<- e];exact (h.act p hp).2
 refine ⟨?_,?_,?_⟩
 . rintro (hb | ⟨i,hi,hb⟩)
   . rw [histS_len] at hb;omega
   . rw [histS_len] at hi
     rw [at_hist hi] at hb
     have hm:=getD_allS hi
     have:=reads_len hi hl (hok.tx _ hm).1.rlen
     have:=(h.tx _ hm).wlen
     have e:(accOf (allS s) i).writes.length=(lastW ((allS s).getD i default).log).length:=by simp [accOf]
     have e2:(accOf (allS s) i).reads=readsOf (allS s) i:=rfl
     rw [e,e2] at hb
     omega
 . rintro (⟨i,hi,hb⟩ | ⟨i,j,hij,hj,e,hp⟩)
   . rw [histS_len] at hi
     rw [at_hist hi] at hb
     exact hb (form i hi)
   . rw [histS_len] at hj
     rw [at_hist hj,at_hist (by omega)] at e
     rw [at_hist hj] at hp
     have f1:=form j hj
     have f2:=form i (by omega)
     have w1:(accOf (allS s) j).writer=true:=Classical.byContradiction fun hn=>by
      have:=f1.2.2.2.2.2.2.2.2 (by simpa using hn);omega
     have w2:(accOf (allS s) i).writer=true:=Classical.byContradiction fun hn=>by
      have:=f2.2.2.2.2.2.2.2.2 (by simpa using hn);omega
     have:=(sep i j hij hj w2 w1).1
     have e':((allS s).getD i default).stamp=((allS s).getD j default).stamp:=e
     omega
 . rintro ⟨i,j,hij,hi,hc⟩
   rw [histS_len] at hi
   rw [at_hist hi,at_hist (by omega)] at hc
   obtain ⟨w1,w2,c1,c2,hm⟩:=hc
   have h1:=sep j i hij hi w2 w1
   have m1:=(meet_iff (hok.tx _ (getD_allS (by omega))).1 (hok.tx _ (getD_allS hi)).1).1 hm
   have:=h1.2 m1
   have e1:(accOf (allS s) i).snap=((allS s).getD i default).snap:=rfl
   have e2:(accOf (allS s) j).stamp=((allS s).getD j default).stamp:=rfl
   omega
theorem idxT_at {s:TS} {tx:Int} {t:TX} (hg:getT s tx=some t):idxT s tx<(allS s).length/\(allS s).getD (idxT s tx) default=t:=by
 simp only [getT,Option.map_eq_some_iff] at hg
 obtain ⟨p,hp,rfl⟩:=hg
 have hlt:s.act.findIdx (fun p=>decide (p.1=tx))<s.act.length:=List.findIdx_lt_length_of_exists ⟨p,List.mem_of_find?_eq_some hp,by have:=List.find?_some hp;simpa using this⟩
 have he:s.act[s.act.findIdx (fun p=>decide (p.1=tx))]?=some p:=by
  rw [<- hp,List.find?_eq_getElem?_findIdx]
 refine ⟨by simp only [idxT,allS,List.length_append,List.length_map];omega,?_⟩
 simp only [idxT,allS,List.getD_eq_getElem?_getD]
 rw [List.getElem?_append_right (by omega)]
 simp [he]
theorem lastTo_ub {h:List Acc} {L:Int} (h0:0<=L) (hh:∀ k,k<h.length->(at' h k).stamp<=L/\(at' h k).snap<=L):∀ m,m<=h.length->lastTo h m<=L
 | 0,_=>h0
 | m+1,hm=>by
   have:=lastTo_ub h0 hh m (by omega)
   have:=hh m (by omega)
   rw [lastTo];omega
theorem iv_last {s:TS} (h:IvS s) (ha:s.act≠[]):lastS (histS s)=s.last:=by
 refine Int.le_antisymm (lastTo_ub (by have:=h.sh;omega) (fun k hk=>?_) _ (Nat.le_refl _)) ?_
 . rw [histS_len] at hk
   rw [at_hist hk]
   show ((allS s).getD k default).stamp<=_/\((allS s).getD k default).snap<=_
   have hm:=getD_allS hk
   have:=(h.tx _ hm).snap
   have:=h.sh
   refine ⟨?_,by omega⟩
   rcases mem_allS.1 hm with hk | ⟨p,hp,e⟩
   . have:=h.kept _ hk
     by_cases hl:((allS s).getD k default).log=[]
     . rw [this.2.1 hl];omega
     . exact (this.2.2 hl).2
   . rw [<- e,(h.act p hp).2];omega
 . obtain ⟨p,l,e⟩:=List.exists_cons_of_ne_nil ha
   have hp:p ∈ s.act:=by rw [e];simp
   have key:∀ t ∈ allS s,t.stamp<=lastS (histS s)/\t.snap<=lastS (histS s):=fun t ht=>by
    obtain ⟨k,hk,rfl⟩:=List.getElem_of_mem ht
    have:=lastS_ge (h:=histS s) (k:=k) (by rw [histS_len];exact hk)
    rw [at_hist hk] at this
    have e2:(allS s).getD k default=(allS s)[k]:=by simp [hk]
    rw [<- e2]
    exact this
   rcases h.topA p hp with h1 | ⟨t,ht,_,h1⟩
   . rw [<- h1];exact (key p.2 (mem_allS.2 (.inr ⟨p,hp,rfl⟩))).2
   . rw [<- h1];exact (key t (mem_allS.2 (.inl ht))).1
theorem admit_at {N:Nat} {s:TS} (hok:OkS N s) (h:IvS s) {tx:Int} {t:TX} (hg:getT s tx=some t):admitS (histS s) (idxT s tx)=admitN (histS s) (idxT s tx):=by
 obtain ⟨h1,h2⟩:=idxT_at hg
 unfold admitS
 rw [if_neg (by rw [iv_check hok h];simp),if_neg,Int.toNat_natCast]
 intro hn
 refine hn ⟨by omega,by rw [histS_len];omega,?_⟩
 rw [Int.toNat_natCast,at_hist h1]
 show ((allS s).getD (idxT s tx) default).done=false
 rw [h2]
 exact (h.act _ (getT_pair hg)).1
theorem admitN_zero {h:List Acc} {n:Nat} (e:(admitN h n).2=0):(admitN h n).1=stampS h n/\stampS h n<=1073741824/\¬ LostW h n/\¬ ((at' h n).mode=1/\DangW h n):=by
 unfold admitN at *
 split at e
 . cases e
 . rename_i h1
   split at e
   . cases e
   . rename_i h2
     split at e
     . cases e
     . rename_i h3
       rw [if_neg h1,if_neg h2,if_neg h3]
       exact ⟨rfl,by omega,h2,h3⟩
theorem stamp_at {s:TS} (h:IvS s) {tx:Int} {t:TX} (hg:getT s tx=some t):stampS (histS s) (idxT s tx)=if t.log=[] then 0 else s.last+1:=by
 obtain ⟨h1,h2⟩:=idxT_at hg
 unfold stampS
 rw [at_hist h1,at_acc,h2,iv_last h (by intro e;have:=getT_pair hg;rw [e] at this;cases this)]
 by_cases hl:t.log=[]
 . rw [if_neg,if_pos hl]
   rw [writesT_pos];exact fun hn=>hn hl
 . rw [if_pos,if_neg hl]
   rw [writesT_pos];exact hl
theorem IvS.commit {N:Nat} {s:TS} (hok:OkS N s) (h:IvS s) (tx:Int):IvS (commitS s tx).2:=by
 unfold commitS
 cases hg:Go.Proofs.Try.getT s tx with
 | none=>exact h
 | some t =>
   obtain ⟨i1,i2⟩:=idxT_at hg
   have ht:=h.tx t (getT_mem hg)
   have hto:=(hok.tx t (getT_mem hg)).1
   simp only
   rw [admit_at hok h hg]
   split
   . exact (h.del tx).forget
   . rename_i he
     simp only [ne_eq,Decidable.not_not] at he
     obtain ⟨a1,a2,a3,a4⟩:=admitN_zero he
     rw [stamp_at h hg] at a1 a2
     rw [a1]
     obtain ⟨h1,h2,h3,h4,h5,h6,h7,h8,h9⟩:=h.del tx
     have hlast:s.last<=(if 0<(if t.log=[] then 0 else s.last+1) then (if t.log=[] then 0 else s.last+1) else s.last)/\(if 0<(if t.log=[] then 0 else s.last+1) then (if t.log=[] then 0 else s.last+1) else s.last)<=1073741824:=by
      have:=h.sh
      by_cases hl:t.log=[]
      . simp only [hl,if_true,Int.lt_irrefl,if_false];omega
      . simp only [hl,if_false] at a2 ⊢
        split <;> omega
     have hnew:∀ L:Int,L=(if 0<(if t.log=[] then 0 else s.last+1) then (if t.log=[] then 0 else s.last+1) else s.last)->t.log≠[]->L=s.last+1:=fun L e hl=>by
      rw [e]
      have:=h.sh
      simp only [hl,if_false]
      rw [if_pos (by omega)]
     have hold:∀ L:Int,L=(if 0<(if t.log=[] then 0 else s.last+1) then (if t.log=[] then 0 else s.last+1) else s.last)->t.log=[]->L=s.last:=fun L e hl=>by
      rw [e];simp [hl]
     generalize (if 0<(if t.log=[] then 0 else s.last+1) then (if t.log=[] then 0 else s.last+1) else s.last)=L at *
     have hL1:=hnew L rfl
     have hL2:=hold L rfl
     clear hnew hold
     have hst:(if t.log=[] then (0:Int) else s.last+1)=0/\t.log=[]\/(if t.log=[] then (0:Int) else s.last+1)=s.last+1/\t.log≠[]:=by
      by_cases hl:t.log=[]
      . exact .inl ⟨by simp [hl],hl⟩
      . exact .inr ⟨by simp [hl],hl⟩
     generalize (if t.log=[] then (0:Int) else s.last+1)=S at *
     have hsh:=h.sh
     refine IvS.forget ⟨⟨h1.1,by have:=h1.2.1;simp only [delT] at this ⊢;omega,hlast.2⟩,fun u hu=>?_,h3,fun u hu=>?_,?_,?_,fun p hp=>?_,h8,h9⟩
     . simp only [allS,List.mem_append,List.mem_singleton] at hu
       rcases hu with (hu | rfl) | hu
       . exact h.tx u (mem_allS.2 (.inl hu))
       . exact ⟨ht.mode,ht.snap,ht.ro,ht.wlen⟩
       . exact h2 u (List.mem_append_right _ hu)
     . rcases List.mem_append.1 hu with hu | hu
       . have:=h.kept u hu
         exact ⟨this.1,this.2.1,fun hl=>by have:=this.2.2 hl;simp only;omega⟩
       . rw [List.mem_singleton.1 hu]
         refine ⟨rfl,fun hl=>?_,fun hl=>?_⟩
         . rcases hst with ⟨e,_⟩ | ⟨_,e⟩
           . exact e
           . exact absurd hl e
         . rcases hst with ⟨_,e⟩ | ⟨e,_⟩
           . exact absurd e hl
           . have:=ht.snap
             simp only;rw [e,hL1 hl];omega
     . refine List.pairwise_append.2 ⟨h.sep,by simp,fun a ha b hb=>?_⟩
       rw [List.mem_singleton.1 hb]
       intro la lb
       have ka:=(h.kept a ha).2.2 la
       rcases hst with ⟨_,e⟩ | ⟨e,_⟩
       . exact absurd e lb
       . refine ⟨by simp only;omega,fun hm=>?_⟩
         simp only
         refine Int.not_lt.1 fun hlt=>a3 ?_
         obtain ⟨k,hk,e2⟩:=List.getElem_of_mem (mem_allS.2 (.inl ha))
         have e3:(allS s).getD k default=a:=by simp [hk,e2]
         refine ⟨k,by rw [histS_len];exact hk,?_⟩
         rw [at_hist hk,at_hist i1]
         refine ⟨?_,?_,?_⟩
         . show ((allS s).getD k default).done=true
           rw [e3];exact (h.kept a ha).1
         . rw [at_acc,at_acc,i2,e3]
           refine (meet_iff hto (hok.tx a (mem_allS.2 (.inl ha))).1).2 ?_
           obtain ⟨u,hu,v,hv,e⟩:=hm
           exact ⟨v,hv,u,hu,e.symm⟩
         . show ((allS s).getD (idxT s tx) default).snap<((allS s).getD k default).stamp
           rw [i2,e3];exact hlt
     . by_cases hl:t.log=[]
       . rcases h.top with h6 | ⟨u,hu,k1,k2⟩
         . left;simp only [delT];rw [hL2 hl];exact h6
         . exact .inr ⟨u,List.mem_append_left _ hu,k1,by simp only;rw [hL2 hl];exact k2⟩
       . refine .inr ⟨_,List.mem_append_right _ (List.mem_singleton.2 rfl),hl,?_⟩
         rcases hst with ⟨_,e⟩ | ⟨e,_⟩
         . exact absurd e hl
         . simp only;rw [e,hL1 hl]
     . by_cases hl:t.log=[]
       . rcases h7 p hp with h7 | ⟨u,hu,k1,k2⟩
         . left;simp only;rw [hL2 hl];exact h7
         . exact .inr ⟨u,List.mem_append_left _ hu,k1,by simp only;rw [hL2 hl];exact k2⟩
       . refine .inr ⟨_,List.mem_append_right _ (List.mem_singleton.2 rfl),hl,?_⟩
         rcases hst with ⟨_,e⟩ | ⟨e,_⟩
         . exact absurd e hl
         . simp only;rw [e,hL1 hl]
theorem IvS.do {N:Nat} {s:TS} (hok:OkS N s) (h:IvS s) (c:CL):IvS (doS s c).2:=by
 unfold doS
 split
 . exact h.begin hok.b0 _
 split
 . exact h.read _ _ _
 split
 . exact h.write _ _
 split
 . exact h
 split
 . exact h.back _ _
 split
 . exact h.commit hok _
 split
 . exact h.publish _
 . exact h.abort _
theorem commit_sep {N:Nat} {s:TS} (hok:OkS N s) (h:IvS s) {tx:Int} {t:TX} (hg:getT s tx=some t) (he:(admitS (histS s) (idxT s tx)).2=0) {a:TX} (ha:a ∈ s.kept) (hm:meetT a t):a.stamp<=t.snap:=by
 obtain ⟨i1,i2⟩:=idxT_at hg
 rw [admit_at hok h hg] at he
 obtain ⟨_,_,a3,_⟩:=admitN_zero he
 refine Int.not_lt.1 fun hlt=>a3 ?_
 obtain ⟨k,hk,e2⟩:=List.getElem_of_mem (mem_allS.2 (.inl ha))
 have e3:(allS s).getD k default=a:=by simp [hk,e2]
 refine ⟨k,by rw [histS_len];exact hk,?_⟩
 rw [at_hist hk,at_hist i1]
 refine ⟨?_,?_,?_⟩
 . show ((allS s).getD k default).done=true
   rw [e3];exact (h.kept a ha).1
 . rw [at_acc,at_acc,i2,e3]
   refine (meet_iff (hok.tx t (getT_mem hg)).1 (hok.tx a (mem_allS.2 (.inl ha))).1).2 ?_
   obtain ⟨u,hu,v,hv,e⟩:=hm
   exact ⟨v,hv,u,hu,e.symm⟩
 . show ((allS s).getD (idxT s tx) default).snap<((allS s).getD k default).stamp
   rw [i2,e3];exact hlt
structure DN where (snap stamp:Int) (w:List WR) deriving Inhabited
theorem readT_snap (t:TX) (tab row:Int):(readT t tab row).snap=t.snap:=by
 unfold readT
 split
 . rfl
 . split <;> rfl
def okW (mode:Int) (log:List WR) (w:WR):Prop:=¬ mode=2/\¬ (w.tab<0\/256<=w.tab\/w.row<1\/1073741824<w.row\/(w.dead=true/\0<w.vals.length))/\¬ ((log.any fun x=>decide (x.key=w.key))=false/\64<=(lastW log).length)
theorem write_ok {s:TS} {tx:Int} {t:TX} (hg:getT s tx=some t) (w:WR):((writeS s tx w).1=0↔okW t.mode t.log w)/\((writeS s tx w).1=0->(writeS s tx w).2=setT s tx { t with log:=t.log++[w] })/\((writeS s tx w).1≠0->(writeS s tx w).2=s):=by
 unfold writeS okW
 rw [hg]
 simp only
 split
 . rename_i h;simp [h]
 . split
   . rename_i h1 h2;simp [h2]
   . split
     . rename_i h1 h2 h3;simp [h3]
     . rename_i h1 h2 h3;simp only [h1,h2,h3];simp
end Go.Proofs.Try
